/- Contracts of functions of the program, each by a walk of its text in the calculus V. -/
import Derived.Test.YtghcdgjbgljipaaDoorR7B
set_option linter.all false
set_option linter.unusedSimpArgs false
set_option linter.unnecessarySimpa false
set_option linter.unusedVariables false
namespace Go.Proofs.YtghcdgjbgljipaaDoor
open Go Go.V

theorem impl_MachineText_c {x : Mach} (hs : x.name.length ≤ 1048576) :
    FnE (α := Unit) Tryd.prog 32 [.agg ((encMach x).map .p)] [(0, powRE Tryd.prog)] [0] (fun _ => True) (fun _ => .p (.v (str (machText x)))) (fun _ => [(0, powRE Tryd.prog)]) := by
  refine FnE.intro Tryd.func32 rfl Tryd.ntmps32 rfl rfl (fun w0 F0 η φ w => ?_)
  refine AC.seq ?_
  refine AC.region ?_
  refine AO.box 1 rfl rfl rfl rfl rfl ?_
  refine AO.yld _ (Yld.assign rfl) rfl rfl rfl ?_
  refine AO.nil ?_
  refine AC.seq ?_
  refine AC.seq ?_
  refine AC.region ?_
  refine AO.yld _ (Yld.loadAgg Tryd.isAgg58 Tryd.sizeOf58 rfl rfl rfl rfl) rfl rfl rfl ?_
  refine AO.yld _ (Yld.call rfl rfl Tryd.call74 rfl rfl rfl (impl_validMachine_c (by first | assumption | omega)) rfl) rfl rfl rfl ?_
  refine AO.yld _ (Yld.not rfl) rfl rfl rfl ?_
  refine AO.nil ?_
  refine AC.cond _ rfl (fun c5 => ?_) (fun c5 => ?_)
  · -- c5 True
    have hno : ¬ okMachine x = true := by simpa using c5
    refine AC.seq ?_
    refine AC.region ?_
    refine AO.yld _ (Yld.assign rfl) rfl rfl rfl ?_
    refine AO.nil ?_
    refine FnE.ret () [0] [0] Tryd.results32 (RVs.cons (RV.tmp rfl) RVs.nil) rfl rfl rfl ?_ ?_ ⟨⟨_, rfl, ?_⟩, trivial⟩
    · -- holds
      trivial
    · -- value
      first | (unfold machText; rw [if_pos hok]; first | done | rfl) | (unfold machText; rw [if_neg hno]; rfl)
    · -- thing 0
      first | rfl | exact vecE (by first | rfl | (simp_all; done) | grind) | (simp_all; done)
  · -- c5 False
    have hok : okMachine x = true := by simpa using c5
    have hlm := mach_lim hok
    have hil := itoa_len (n := x.offset) (by omega)
    have hil2 := itoa_len (n := x.delay) (by omega)
    refine AC.skip ?_
    refine AC.seq ?_
    apply AC.drawAnyC (α := Unit) [(0, _), (1, _), (3, _), (4, _), (5, _)] [(0, _), (1, _), (900, _)] (fun y => [(2, .p (.v (str (x.name ++ [32] ++ Lib.itoa x.offset ++ [32] ++ Lib.itoa x.delay))))]) (fun y => []) (by kernel_rfl)
    · -- orders
      refine ANx.take 0 rfl (by kernel_rfl) (by kernel_rfl) (by kernel_rfl) rfl rfl rfl (YldA.fieldAddr Tryd.underlying58 rfl rfl Tryd.sizeOf9 rfl rfl rfl) ?_
      refine ANx.take 3 rfl (by kernel_rfl) (by kernel_rfl) (by kernel_rfl) rfl rfl rfl (YldA.fieldAddr Tryd.underlying58 rfl rfl Tryd.sizeOf2 rfl rfl rfl) ?_
      refine ANx.take 8 rfl (by kernel_rfl) (by kernel_rfl) (by kernel_rfl) rfl rfl rfl (YldA.fieldAddr Tryd.underlying58 rfl rfl Tryd.sizeOf2 rfl rfl rfl) ?_
      refine ANx.all (rs := [1, 4, 9]) (by kernel_rfl) rfl ⟨?_, ?_, ?_, trivial⟩
      · -- 1
        refine Stpx.eff rfl rfl (Eff.yld (Yld.load Tryd.isAgg9 rfl rfl) rfl rfl) ?_
        refine ANx.all (rs := [2, 4, 9]) (by kernel_rfl) rfl ⟨?_, ?_, ?_, trivial⟩
        · -- 2
          refine Stpx.eff rfl rfl (Eff.yld (Yld.cat rfl rfl (by first | (simp only [List.length_append, List.length_cons, List.length_nil]; omega) | omega)) rfl rfl) ?_
          refine ANx.all (rs := [4, 9]) (by kernel_rfl) rfl ⟨?_, ?_, trivial⟩
          · -- 4
            refine Stpx.eff rfl rfl (Eff.yld (Yld.load Tryd.isAgg2 rfl rfl) rfl rfl) ?_
            refine ANx.all (rs := [5, 9]) (by kernel_rfl) rfl ⟨?_, ?_, trivial⟩
            · -- 5
              refine Stpx.effX rfl rfl (EffX.callW [0] [0] [0] rfl rfl Tryd.call53 rfl (impl_Decimal_c (by omega) (by omega)) (.own rfl) rfl (fun _ => rfl) ⟨rfl, trivial⟩ rfl (fun _ => rfl) (fun _ => rfl)) ?_
              rintro _ ⟨⟨⟩, hu11, rfl⟩
              refine ANx.all (rs := [6, 9]) (by kernel_rfl) rfl ⟨?_, ?_, trivial⟩
              · -- 6
                refine Stpx.eff rfl rfl (Eff.yld (Yld.cat rfl rfl (by first | (simp only [List.length_append, List.length_cons, List.length_nil]; omega) | omega)) rfl rfl) ?_
                refine ANx.all (rs := [7, 9]) (by kernel_rfl) rfl ⟨?_, ?_, trivial⟩
                · -- 7
                  refine Stpx.eff rfl rfl (Eff.yld (Yld.cat rfl rfl (by first | (simp only [List.length_append, List.length_cons, List.length_nil]; omega) | omega)) rfl rfl) ?_
                  refine ANx.all (rs := [9]) (by kernel_rfl) rfl ⟨?_, trivial⟩
                  refine Stpx.eff rfl rfl (Eff.yld (Yld.load Tryd.isAgg2 rfl rfl) rfl rfl) ?_
                  refine ANx.all (rs := [10]) (by kernel_rfl) rfl ⟨?_, trivial⟩
                  refine Stpx.effX rfl rfl (EffX.callW [0] [0] [0] rfl rfl Tryd.call53 rfl (impl_Decimal_c (by omega) (by omega)) (.own rfl) rfl (fun _ => rfl) ⟨rfl, trivial⟩ rfl (fun _ => rfl) (fun _ => rfl)) ?_
                  rintro _ ⟨⟨⟩, hu16, rfl⟩
                  refine ANx.all (rs := [11]) (by kernel_rfl) rfl ⟨?_, trivial⟩
                  refine Stpx.eff rfl rfl (Eff.yld (Yld.cat rfl rfl (by first | (simp only [List.length_append, List.length_cons, List.length_nil]; omega) | omega)) rfl rfl) ?_
                  refine ANx.take 12 rfl (by kernel_rfl) (by kernel_rfl) (by kernel_rfl) rfl rfl rfl (YldA.assign rfl) ?_
                  exact ANx.doneC () (by kernel_rfl) ⟨rfl, trivial⟩ trivial ⟨rfl, rfl, rfl, rfl, rfl, trivial⟩ ⟨rfl, rfl, rfl, trivial⟩
                · -- 9
                  refine Stpx.eff rfl rfl (Eff.yld (Yld.load Tryd.isAgg2 rfl rfl) rfl rfl) ?_
                  refine ANx.all (rs := [7, 10]) (by kernel_rfl) rfl ⟨?_, ?_, trivial⟩
                  · -- 7
                    refine Stpx.eff rfl rfl (Eff.yld (Yld.cat rfl rfl (by first | (simp only [List.length_append, List.length_cons, List.length_nil]; omega) | omega)) rfl rfl) ?_
                    refine ANx.all (rs := [10]) (by kernel_rfl) rfl ⟨?_, trivial⟩
                    refine Stpx.effX rfl rfl (EffX.callW [0] [0] [0] rfl rfl Tryd.call53 rfl (impl_Decimal_c (by omega) (by omega)) (.own rfl) rfl (fun _ => rfl) ⟨rfl, trivial⟩ rfl (fun _ => rfl) (fun _ => rfl)) ?_
                    rintro _ ⟨⟨⟩, hu16, rfl⟩
                    refine ANx.all (rs := [11]) (by kernel_rfl) rfl ⟨?_, trivial⟩
                    refine Stpx.eff rfl rfl (Eff.yld (Yld.cat rfl rfl (by first | (simp only [List.length_append, List.length_cons, List.length_nil]; omega) | omega)) rfl rfl) ?_
                    refine ANx.take 12 rfl (by kernel_rfl) (by kernel_rfl) (by kernel_rfl) rfl rfl rfl (YldA.assign rfl) ?_
                    exact ANx.doneC () (by kernel_rfl) ⟨rfl, trivial⟩ trivial ⟨rfl, rfl, rfl, rfl, rfl, trivial⟩ ⟨rfl, rfl, rfl, trivial⟩
                  · -- 10
                    refine Stpx.effX rfl rfl (EffX.callW [0] [0] [0] rfl rfl Tryd.call53 rfl (impl_Decimal_c (by omega) (by omega)) (.own rfl) rfl (fun _ => rfl) ⟨rfl, trivial⟩ rfl (fun _ => rfl) (fun _ => rfl)) ?_
                    rintro _ ⟨⟨⟩, hu16, rfl⟩
                    refine ANx.all (rs := [7]) (by kernel_rfl) rfl ⟨?_, trivial⟩
                    refine Stpx.eff rfl rfl (Eff.yld (Yld.cat rfl rfl (by first | (simp only [List.length_append, List.length_cons, List.length_nil]; omega) | omega)) rfl rfl) ?_
                    refine ANx.all (rs := [11]) (by kernel_rfl) rfl ⟨?_, trivial⟩
                    refine Stpx.eff rfl rfl (Eff.yld (Yld.cat rfl rfl (by first | (simp only [List.length_append, List.length_cons, List.length_nil]; omega) | omega)) rfl rfl) ?_
                    refine ANx.take 12 rfl (by kernel_rfl) (by kernel_rfl) (by kernel_rfl) rfl rfl rfl (YldA.assign rfl) ?_
                    exact ANx.doneC () (by kernel_rfl) ⟨rfl, trivial⟩ trivial ⟨rfl, rfl, rfl, rfl, rfl, trivial⟩ ⟨rfl, rfl, rfl, trivial⟩
              · -- 9
                refine Stpx.eff rfl rfl (Eff.yld (Yld.load Tryd.isAgg2 rfl rfl) rfl rfl) ?_
                refine ANx.all (rs := [6, 10]) (by kernel_rfl) rfl ⟨?_, ?_, trivial⟩
                · -- 6
                  refine Stpx.eff rfl rfl (Eff.yld (Yld.cat rfl rfl (by first | (simp only [List.length_append, List.length_cons, List.length_nil]; omega) | omega)) rfl rfl) ?_
                  refine ANx.all (rs := [7, 10]) (by kernel_rfl) rfl ⟨?_, ?_, trivial⟩
                  · -- 7
                    refine Stpx.eff rfl rfl (Eff.yld (Yld.cat rfl rfl (by first | (simp only [List.length_append, List.length_cons, List.length_nil]; omega) | omega)) rfl rfl) ?_
                    refine ANx.all (rs := [10]) (by kernel_rfl) rfl ⟨?_, trivial⟩
                    refine Stpx.effX rfl rfl (EffX.callW [0] [0] [0] rfl rfl Tryd.call53 rfl (impl_Decimal_c (by omega) (by omega)) (.own rfl) rfl (fun _ => rfl) ⟨rfl, trivial⟩ rfl (fun _ => rfl) (fun _ => rfl)) ?_
                    rintro _ ⟨⟨⟩, hu16, rfl⟩
                    refine ANx.all (rs := [11]) (by kernel_rfl) rfl ⟨?_, trivial⟩
                    refine Stpx.eff rfl rfl (Eff.yld (Yld.cat rfl rfl (by first | (simp only [List.length_append, List.length_cons, List.length_nil]; omega) | omega)) rfl rfl) ?_
                    refine ANx.take 12 rfl (by kernel_rfl) (by kernel_rfl) (by kernel_rfl) rfl rfl rfl (YldA.assign rfl) ?_
                    exact ANx.doneC () (by kernel_rfl) ⟨rfl, trivial⟩ trivial ⟨rfl, rfl, rfl, rfl, rfl, trivial⟩ ⟨rfl, rfl, rfl, trivial⟩
                  · -- 10
                    refine Stpx.effX rfl rfl (EffX.callW [0] [0] [0] rfl rfl Tryd.call53 rfl (impl_Decimal_c (by omega) (by omega)) (.own rfl) rfl (fun _ => rfl) ⟨rfl, trivial⟩ rfl (fun _ => rfl) (fun _ => rfl)) ?_
                    rintro _ ⟨⟨⟩, hu16, rfl⟩
                    refine ANx.all (rs := [7]) (by kernel_rfl) rfl ⟨?_, trivial⟩
                    refine Stpx.eff rfl rfl (Eff.yld (Yld.cat rfl rfl (by first | (simp only [List.length_append, List.length_cons, List.length_nil]; omega) | omega)) rfl rfl) ?_
                    refine ANx.all (rs := [11]) (by kernel_rfl) rfl ⟨?_, trivial⟩
                    refine Stpx.eff rfl rfl (Eff.yld (Yld.cat rfl rfl (by first | (simp only [List.length_append, List.length_cons, List.length_nil]; omega) | omega)) rfl rfl) ?_
                    refine ANx.take 12 rfl (by kernel_rfl) (by kernel_rfl) (by kernel_rfl) rfl rfl rfl (YldA.assign rfl) ?_
                    exact ANx.doneC () (by kernel_rfl) ⟨rfl, trivial⟩ trivial ⟨rfl, rfl, rfl, rfl, rfl, trivial⟩ ⟨rfl, rfl, rfl, trivial⟩
                · -- 10
                  refine Stpx.effX rfl rfl (EffX.callW [0] [0] [0] rfl rfl Tryd.call53 rfl (impl_Decimal_c (by omega) (by omega)) (.own rfl) rfl (fun _ => rfl) ⟨rfl, trivial⟩ rfl (fun _ => rfl) (fun _ => rfl)) ?_
                  rintro _ ⟨⟨⟩, hu16, rfl⟩
                  refine ANx.all (rs := [6]) (by kernel_rfl) rfl ⟨?_, trivial⟩
                  refine Stpx.eff rfl rfl (Eff.yld (Yld.cat rfl rfl (by first | (simp only [List.length_append, List.length_cons, List.length_nil]; omega) | omega)) rfl rfl) ?_
                  refine ANx.all (rs := [7]) (by kernel_rfl) rfl ⟨?_, trivial⟩
                  refine Stpx.eff rfl rfl (Eff.yld (Yld.cat rfl rfl (by first | (simp only [List.length_append, List.length_cons, List.length_nil]; omega) | omega)) rfl rfl) ?_
                  refine ANx.all (rs := [11]) (by kernel_rfl) rfl ⟨?_, trivial⟩
                  refine Stpx.eff rfl rfl (Eff.yld (Yld.cat rfl rfl (by first | (simp only [List.length_append, List.length_cons, List.length_nil]; omega) | omega)) rfl rfl) ?_
                  refine ANx.take 12 rfl (by kernel_rfl) (by kernel_rfl) (by kernel_rfl) rfl rfl rfl (YldA.assign rfl) ?_
                  exact ANx.doneC () (by kernel_rfl) ⟨rfl, trivial⟩ trivial ⟨rfl, rfl, rfl, rfl, rfl, trivial⟩ ⟨rfl, rfl, rfl, trivial⟩
            · -- 9
              refine Stpx.eff rfl rfl (Eff.yld (Yld.load Tryd.isAgg2 rfl rfl) rfl rfl) ?_
              refine ANx.all (rs := [5]) (by kernel_rfl) rfl ⟨?_, trivial⟩
              refine Stpx.effX rfl rfl (EffX.callW [0] [0] [0] rfl rfl Tryd.call53 rfl (impl_Decimal_c (by omega) (by omega)) (.own rfl) rfl (fun _ => rfl) ⟨rfl, trivial⟩ rfl (fun _ => rfl) (fun _ => rfl)) ?_
              rintro _ ⟨⟨⟩, hu11, rfl⟩
              refine ANx.all (rs := [6, 10]) (by kernel_rfl) rfl ⟨?_, ?_, trivial⟩
              · -- 6
                refine Stpx.eff rfl rfl (Eff.yld (Yld.cat rfl rfl (by first | (simp only [List.length_append, List.length_cons, List.length_nil]; omega) | omega)) rfl rfl) ?_
                refine ANx.all (rs := [7, 10]) (by kernel_rfl) rfl ⟨?_, ?_, trivial⟩
                · -- 7
                  refine Stpx.eff rfl rfl (Eff.yld (Yld.cat rfl rfl (by first | (simp only [List.length_append, List.length_cons, List.length_nil]; omega) | omega)) rfl rfl) ?_
                  refine ANx.all (rs := [10]) (by kernel_rfl) rfl ⟨?_, trivial⟩
                  refine Stpx.effX rfl rfl (EffX.callW [0] [0] [0] rfl rfl Tryd.call53 rfl (impl_Decimal_c (by omega) (by omega)) (.own rfl) rfl (fun _ => rfl) ⟨rfl, trivial⟩ rfl (fun _ => rfl) (fun _ => rfl)) ?_
                  rintro _ ⟨⟨⟩, hu16, rfl⟩
                  refine ANx.all (rs := [11]) (by kernel_rfl) rfl ⟨?_, trivial⟩
                  refine Stpx.eff rfl rfl (Eff.yld (Yld.cat rfl rfl (by first | (simp only [List.length_append, List.length_cons, List.length_nil]; omega) | omega)) rfl rfl) ?_
                  refine ANx.take 12 rfl (by kernel_rfl) (by kernel_rfl) (by kernel_rfl) rfl rfl rfl (YldA.assign rfl) ?_
                  exact ANx.doneC () (by kernel_rfl) ⟨rfl, trivial⟩ trivial ⟨rfl, rfl, rfl, rfl, rfl, trivial⟩ ⟨rfl, rfl, rfl, trivial⟩
                · -- 10
                  refine Stpx.effX rfl rfl (EffX.callW [0] [0] [0] rfl rfl Tryd.call53 rfl (impl_Decimal_c (by omega) (by omega)) (.own rfl) rfl (fun _ => rfl) ⟨rfl, trivial⟩ rfl (fun _ => rfl) (fun _ => rfl)) ?_
                  rintro _ ⟨⟨⟩, hu16, rfl⟩
                  refine ANx.all (rs := [7]) (by kernel_rfl) rfl ⟨?_, trivial⟩
                  refine Stpx.eff rfl rfl (Eff.yld (Yld.cat rfl rfl (by first | (simp only [List.length_append, List.length_cons, List.length_nil]; omega) | omega)) rfl rfl) ?_
                  refine ANx.all (rs := [11]) (by kernel_rfl) rfl ⟨?_, trivial⟩
                  refine Stpx.eff rfl rfl (Eff.yld (Yld.cat rfl rfl (by first | (simp only [List.length_append, List.length_cons, List.length_nil]; omega) | omega)) rfl rfl) ?_
                  refine ANx.take 12 rfl (by kernel_rfl) (by kernel_rfl) (by kernel_rfl) rfl rfl rfl (YldA.assign rfl) ?_
                  exact ANx.doneC () (by kernel_rfl) ⟨rfl, trivial⟩ trivial ⟨rfl, rfl, rfl, rfl, rfl, trivial⟩ ⟨rfl, rfl, rfl, trivial⟩
              · -- 10
                refine Stpx.effX rfl rfl (EffX.callW [0] [0] [0] rfl rfl Tryd.call53 rfl (impl_Decimal_c (by omega) (by omega)) (.own rfl) rfl (fun _ => rfl) ⟨rfl, trivial⟩ rfl (fun _ => rfl) (fun _ => rfl)) ?_
                rintro _ ⟨⟨⟩, hu16, rfl⟩
                refine ANx.all (rs := [6]) (by kernel_rfl) rfl ⟨?_, trivial⟩
                refine Stpx.eff rfl rfl (Eff.yld (Yld.cat rfl rfl (by first | (simp only [List.length_append, List.length_cons, List.length_nil]; omega) | omega)) rfl rfl) ?_
                refine ANx.all (rs := [7]) (by kernel_rfl) rfl ⟨?_, trivial⟩
                refine Stpx.eff rfl rfl (Eff.yld (Yld.cat rfl rfl (by first | (simp only [List.length_append, List.length_cons, List.length_nil]; omega) | omega)) rfl rfl) ?_
                refine ANx.all (rs := [11]) (by kernel_rfl) rfl ⟨?_, trivial⟩
                refine Stpx.eff rfl rfl (Eff.yld (Yld.cat rfl rfl (by first | (simp only [List.length_append, List.length_cons, List.length_nil]; omega) | omega)) rfl rfl) ?_
                refine ANx.take 12 rfl (by kernel_rfl) (by kernel_rfl) (by kernel_rfl) rfl rfl rfl (YldA.assign rfl) ?_
                exact ANx.doneC () (by kernel_rfl) ⟨rfl, trivial⟩ trivial ⟨rfl, rfl, rfl, rfl, rfl, trivial⟩ ⟨rfl, rfl, rfl, trivial⟩
          · -- 9
            refine Stpx.eff rfl rfl (Eff.yld (Yld.load Tryd.isAgg2 rfl rfl) rfl rfl) ?_
            refine ANx.all (rs := [4]) (by kernel_rfl) rfl ⟨?_, trivial⟩
            refine Stpx.eff rfl rfl (Eff.yld (Yld.load Tryd.isAgg2 rfl rfl) rfl rfl) ?_
            refine ANx.all (rs := [5]) (by kernel_rfl) rfl ⟨?_, trivial⟩
            refine Stpx.effX rfl rfl (EffX.callW [0] [0] [0] rfl rfl Tryd.call53 rfl (impl_Decimal_c (by omega) (by omega)) (.own rfl) rfl (fun _ => rfl) ⟨rfl, trivial⟩ rfl (fun _ => rfl) (fun _ => rfl)) ?_
            rintro _ ⟨⟨⟩, hu11, rfl⟩
            refine ANx.all (rs := [6, 10]) (by kernel_rfl) rfl ⟨?_, ?_, trivial⟩
            · -- 6
              refine Stpx.eff rfl rfl (Eff.yld (Yld.cat rfl rfl (by first | (simp only [List.length_append, List.length_cons, List.length_nil]; omega) | omega)) rfl rfl) ?_
              refine ANx.all (rs := [7, 10]) (by kernel_rfl) rfl ⟨?_, ?_, trivial⟩
              · -- 7
                refine Stpx.eff rfl rfl (Eff.yld (Yld.cat rfl rfl (by first | (simp only [List.length_append, List.length_cons, List.length_nil]; omega) | omega)) rfl rfl) ?_
                refine ANx.all (rs := [10]) (by kernel_rfl) rfl ⟨?_, trivial⟩
                refine Stpx.effX rfl rfl (EffX.callW [0] [0] [0] rfl rfl Tryd.call53 rfl (impl_Decimal_c (by omega) (by omega)) (.own rfl) rfl (fun _ => rfl) ⟨rfl, trivial⟩ rfl (fun _ => rfl) (fun _ => rfl)) ?_
                rintro _ ⟨⟨⟩, hu16, rfl⟩
                refine ANx.all (rs := [11]) (by kernel_rfl) rfl ⟨?_, trivial⟩
                refine Stpx.eff rfl rfl (Eff.yld (Yld.cat rfl rfl (by first | (simp only [List.length_append, List.length_cons, List.length_nil]; omega) | omega)) rfl rfl) ?_
                refine ANx.take 12 rfl (by kernel_rfl) (by kernel_rfl) (by kernel_rfl) rfl rfl rfl (YldA.assign rfl) ?_
                exact ANx.doneC () (by kernel_rfl) ⟨rfl, trivial⟩ trivial ⟨rfl, rfl, rfl, rfl, rfl, trivial⟩ ⟨rfl, rfl, rfl, trivial⟩
              · -- 10
                refine Stpx.effX rfl rfl (EffX.callW [0] [0] [0] rfl rfl Tryd.call53 rfl (impl_Decimal_c (by omega) (by omega)) (.own rfl) rfl (fun _ => rfl) ⟨rfl, trivial⟩ rfl (fun _ => rfl) (fun _ => rfl)) ?_
                rintro _ ⟨⟨⟩, hu16, rfl⟩
                refine ANx.all (rs := [7]) (by kernel_rfl) rfl ⟨?_, trivial⟩
                refine Stpx.eff rfl rfl (Eff.yld (Yld.cat rfl rfl (by first | (simp only [List.length_append, List.length_cons, List.length_nil]; omega) | omega)) rfl rfl) ?_
                refine ANx.all (rs := [11]) (by kernel_rfl) rfl ⟨?_, trivial⟩
                refine Stpx.eff rfl rfl (Eff.yld (Yld.cat rfl rfl (by first | (simp only [List.length_append, List.length_cons, List.length_nil]; omega) | omega)) rfl rfl) ?_
                refine ANx.take 12 rfl (by kernel_rfl) (by kernel_rfl) (by kernel_rfl) rfl rfl rfl (YldA.assign rfl) ?_
                exact ANx.doneC () (by kernel_rfl) ⟨rfl, trivial⟩ trivial ⟨rfl, rfl, rfl, rfl, rfl, trivial⟩ ⟨rfl, rfl, rfl, trivial⟩
            · -- 10
              refine Stpx.effX rfl rfl (EffX.callW [0] [0] [0] rfl rfl Tryd.call53 rfl (impl_Decimal_c (by omega) (by omega)) (.own rfl) rfl (fun _ => rfl) ⟨rfl, trivial⟩ rfl (fun _ => rfl) (fun _ => rfl)) ?_
              rintro _ ⟨⟨⟩, hu16, rfl⟩
              refine ANx.all (rs := [6]) (by kernel_rfl) rfl ⟨?_, trivial⟩
              refine Stpx.eff rfl rfl (Eff.yld (Yld.cat rfl rfl (by first | (simp only [List.length_append, List.length_cons, List.length_nil]; omega) | omega)) rfl rfl) ?_
              refine ANx.all (rs := [7]) (by kernel_rfl) rfl ⟨?_, trivial⟩
              refine Stpx.eff rfl rfl (Eff.yld (Yld.cat rfl rfl (by first | (simp only [List.length_append, List.length_cons, List.length_nil]; omega) | omega)) rfl rfl) ?_
              refine ANx.all (rs := [11]) (by kernel_rfl) rfl ⟨?_, trivial⟩
              refine Stpx.eff rfl rfl (Eff.yld (Yld.cat rfl rfl (by first | (simp only [List.length_append, List.length_cons, List.length_nil]; omega) | omega)) rfl rfl) ?_
              refine ANx.take 12 rfl (by kernel_rfl) (by kernel_rfl) (by kernel_rfl) rfl rfl rfl (YldA.assign rfl) ?_
              exact ANx.doneC () (by kernel_rfl) ⟨rfl, trivial⟩ trivial ⟨rfl, rfl, rfl, rfl, rfl, trivial⟩ ⟨rfl, rfl, rfl, trivial⟩
        · -- 4
          refine Stpx.eff rfl rfl (Eff.yld (Yld.load Tryd.isAgg2 rfl rfl) rfl rfl) ?_
          refine ANx.all (rs := [2, 5, 9]) (by kernel_rfl) rfl ⟨?_, ?_, ?_, trivial⟩
          · -- 2
            refine Stpx.eff rfl rfl (Eff.yld (Yld.cat rfl rfl (by first | (simp only [List.length_append, List.length_cons, List.length_nil]; omega) | omega)) rfl rfl) ?_
            refine ANx.all (rs := [5, 9]) (by kernel_rfl) rfl ⟨?_, ?_, trivial⟩
            · -- 5
              refine Stpx.effX rfl rfl (EffX.callW [0] [0] [0] rfl rfl Tryd.call53 rfl (impl_Decimal_c (by omega) (by omega)) (.own rfl) rfl (fun _ => rfl) ⟨rfl, trivial⟩ rfl (fun _ => rfl) (fun _ => rfl)) ?_
              rintro _ ⟨⟨⟩, hu11, rfl⟩
              refine ANx.all (rs := [6, 9]) (by kernel_rfl) rfl ⟨?_, ?_, trivial⟩
              · -- 6
                refine Stpx.eff rfl rfl (Eff.yld (Yld.cat rfl rfl (by first | (simp only [List.length_append, List.length_cons, List.length_nil]; omega) | omega)) rfl rfl) ?_
                refine ANx.all (rs := [7, 9]) (by kernel_rfl) rfl ⟨?_, ?_, trivial⟩
                · -- 7
                  refine Stpx.eff rfl rfl (Eff.yld (Yld.cat rfl rfl (by first | (simp only [List.length_append, List.length_cons, List.length_nil]; omega) | omega)) rfl rfl) ?_
                  refine ANx.all (rs := [9]) (by kernel_rfl) rfl ⟨?_, trivial⟩
                  refine Stpx.eff rfl rfl (Eff.yld (Yld.load Tryd.isAgg2 rfl rfl) rfl rfl) ?_
                  refine ANx.all (rs := [10]) (by kernel_rfl) rfl ⟨?_, trivial⟩
                  refine Stpx.effX rfl rfl (EffX.callW [0] [0] [0] rfl rfl Tryd.call53 rfl (impl_Decimal_c (by omega) (by omega)) (.own rfl) rfl (fun _ => rfl) ⟨rfl, trivial⟩ rfl (fun _ => rfl) (fun _ => rfl)) ?_
                  rintro _ ⟨⟨⟩, hu16, rfl⟩
                  refine ANx.all (rs := [11]) (by kernel_rfl) rfl ⟨?_, trivial⟩
                  refine Stpx.eff rfl rfl (Eff.yld (Yld.cat rfl rfl (by first | (simp only [List.length_append, List.length_cons, List.length_nil]; omega) | omega)) rfl rfl) ?_
                  refine ANx.take 12 rfl (by kernel_rfl) (by kernel_rfl) (by kernel_rfl) rfl rfl rfl (YldA.assign rfl) ?_
                  exact ANx.doneC () (by kernel_rfl) ⟨rfl, trivial⟩ trivial ⟨rfl, rfl, rfl, rfl, rfl, trivial⟩ ⟨rfl, rfl, rfl, trivial⟩
                · -- 9
                  refine Stpx.eff rfl rfl (Eff.yld (Yld.load Tryd.isAgg2 rfl rfl) rfl rfl) ?_
                  refine ANx.all (rs := [7, 10]) (by kernel_rfl) rfl ⟨?_, ?_, trivial⟩
                  · -- 7
                    refine Stpx.eff rfl rfl (Eff.yld (Yld.cat rfl rfl (by first | (simp only [List.length_append, List.length_cons, List.length_nil]; omega) | omega)) rfl rfl) ?_
                    refine ANx.all (rs := [10]) (by kernel_rfl) rfl ⟨?_, trivial⟩
                    refine Stpx.effX rfl rfl (EffX.callW [0] [0] [0] rfl rfl Tryd.call53 rfl (impl_Decimal_c (by omega) (by omega)) (.own rfl) rfl (fun _ => rfl) ⟨rfl, trivial⟩ rfl (fun _ => rfl) (fun _ => rfl)) ?_
                    rintro _ ⟨⟨⟩, hu16, rfl⟩
                    refine ANx.all (rs := [11]) (by kernel_rfl) rfl ⟨?_, trivial⟩
                    refine Stpx.eff rfl rfl (Eff.yld (Yld.cat rfl rfl (by first | (simp only [List.length_append, List.length_cons, List.length_nil]; omega) | omega)) rfl rfl) ?_
                    refine ANx.take 12 rfl (by kernel_rfl) (by kernel_rfl) (by kernel_rfl) rfl rfl rfl (YldA.assign rfl) ?_
                    exact ANx.doneC () (by kernel_rfl) ⟨rfl, trivial⟩ trivial ⟨rfl, rfl, rfl, rfl, rfl, trivial⟩ ⟨rfl, rfl, rfl, trivial⟩
                  · -- 10
                    refine Stpx.effX rfl rfl (EffX.callW [0] [0] [0] rfl rfl Tryd.call53 rfl (impl_Decimal_c (by omega) (by omega)) (.own rfl) rfl (fun _ => rfl) ⟨rfl, trivial⟩ rfl (fun _ => rfl) (fun _ => rfl)) ?_
                    rintro _ ⟨⟨⟩, hu16, rfl⟩
                    refine ANx.all (rs := [7]) (by kernel_rfl) rfl ⟨?_, trivial⟩
                    refine Stpx.eff rfl rfl (Eff.yld (Yld.cat rfl rfl (by first | (simp only [List.length_append, List.length_cons, List.length_nil]; omega) | omega)) rfl rfl) ?_
                    refine ANx.all (rs := [11]) (by kernel_rfl) rfl ⟨?_, trivial⟩
                    refine Stpx.eff rfl rfl (Eff.yld (Yld.cat rfl rfl (by first | (simp only [List.length_append, List.length_cons, List.length_nil]; omega) | omega)) rfl rfl) ?_
                    refine ANx.take 12 rfl (by kernel_rfl) (by kernel_rfl) (by kernel_rfl) rfl rfl rfl (YldA.assign rfl) ?_
                    exact ANx.doneC () (by kernel_rfl) ⟨rfl, trivial⟩ trivial ⟨rfl, rfl, rfl, rfl, rfl, trivial⟩ ⟨rfl, rfl, rfl, trivial⟩
              · -- 9
                refine Stpx.eff rfl rfl (Eff.yld (Yld.load Tryd.isAgg2 rfl rfl) rfl rfl) ?_
                refine ANx.all (rs := [6, 10]) (by kernel_rfl) rfl ⟨?_, ?_, trivial⟩
                · -- 6
                  refine Stpx.eff rfl rfl (Eff.yld (Yld.cat rfl rfl (by first | (simp only [List.length_append, List.length_cons, List.length_nil]; omega) | omega)) rfl rfl) ?_
                  refine ANx.all (rs := [7, 10]) (by kernel_rfl) rfl ⟨?_, ?_, trivial⟩
                  · -- 7
                    refine Stpx.eff rfl rfl (Eff.yld (Yld.cat rfl rfl (by first | (simp only [List.length_append, List.length_cons, List.length_nil]; omega) | omega)) rfl rfl) ?_
                    refine ANx.all (rs := [10]) (by kernel_rfl) rfl ⟨?_, trivial⟩
                    refine Stpx.effX rfl rfl (EffX.callW [0] [0] [0] rfl rfl Tryd.call53 rfl (impl_Decimal_c (by omega) (by omega)) (.own rfl) rfl (fun _ => rfl) ⟨rfl, trivial⟩ rfl (fun _ => rfl) (fun _ => rfl)) ?_
                    rintro _ ⟨⟨⟩, hu16, rfl⟩
                    refine ANx.all (rs := [11]) (by kernel_rfl) rfl ⟨?_, trivial⟩
                    refine Stpx.eff rfl rfl (Eff.yld (Yld.cat rfl rfl (by first | (simp only [List.length_append, List.length_cons, List.length_nil]; omega) | omega)) rfl rfl) ?_
                    refine ANx.take 12 rfl (by kernel_rfl) (by kernel_rfl) (by kernel_rfl) rfl rfl rfl (YldA.assign rfl) ?_
                    exact ANx.doneC () (by kernel_rfl) ⟨rfl, trivial⟩ trivial ⟨rfl, rfl, rfl, rfl, rfl, trivial⟩ ⟨rfl, rfl, rfl, trivial⟩
                  · -- 10
                    refine Stpx.effX rfl rfl (EffX.callW [0] [0] [0] rfl rfl Tryd.call53 rfl (impl_Decimal_c (by omega) (by omega)) (.own rfl) rfl (fun _ => rfl) ⟨rfl, trivial⟩ rfl (fun _ => rfl) (fun _ => rfl)) ?_
                    rintro _ ⟨⟨⟩, hu16, rfl⟩
                    refine ANx.all (rs := [7]) (by kernel_rfl) rfl ⟨?_, trivial⟩
                    refine Stpx.eff rfl rfl (Eff.yld (Yld.cat rfl rfl (by first | (simp only [List.length_append, List.length_cons, List.length_nil]; omega) | omega)) rfl rfl) ?_
                    refine ANx.all (rs := [11]) (by kernel_rfl) rfl ⟨?_, trivial⟩
                    refine Stpx.eff rfl rfl (Eff.yld (Yld.cat rfl rfl (by first | (simp only [List.length_append, List.length_cons, List.length_nil]; omega) | omega)) rfl rfl) ?_
                    refine ANx.take 12 rfl (by kernel_rfl) (by kernel_rfl) (by kernel_rfl) rfl rfl rfl (YldA.assign rfl) ?_
                    exact ANx.doneC () (by kernel_rfl) ⟨rfl, trivial⟩ trivial ⟨rfl, rfl, rfl, rfl, rfl, trivial⟩ ⟨rfl, rfl, rfl, trivial⟩
                · -- 10
                  refine Stpx.effX rfl rfl (EffX.callW [0] [0] [0] rfl rfl Tryd.call53 rfl (impl_Decimal_c (by omega) (by omega)) (.own rfl) rfl (fun _ => rfl) ⟨rfl, trivial⟩ rfl (fun _ => rfl) (fun _ => rfl)) ?_
                  rintro _ ⟨⟨⟩, hu16, rfl⟩
                  refine ANx.all (rs := [6]) (by kernel_rfl) rfl ⟨?_, trivial⟩
                  refine Stpx.eff rfl rfl (Eff.yld (Yld.cat rfl rfl (by first | (simp only [List.length_append, List.length_cons, List.length_nil]; omega) | omega)) rfl rfl) ?_
                  refine ANx.all (rs := [7]) (by kernel_rfl) rfl ⟨?_, trivial⟩
                  refine Stpx.eff rfl rfl (Eff.yld (Yld.cat rfl rfl (by first | (simp only [List.length_append, List.length_cons, List.length_nil]; omega) | omega)) rfl rfl) ?_
                  refine ANx.all (rs := [11]) (by kernel_rfl) rfl ⟨?_, trivial⟩
                  refine Stpx.eff rfl rfl (Eff.yld (Yld.cat rfl rfl (by first | (simp only [List.length_append, List.length_cons, List.length_nil]; omega) | omega)) rfl rfl) ?_
                  refine ANx.take 12 rfl (by kernel_rfl) (by kernel_rfl) (by kernel_rfl) rfl rfl rfl (YldA.assign rfl) ?_
                  exact ANx.doneC () (by kernel_rfl) ⟨rfl, trivial⟩ trivial ⟨rfl, rfl, rfl, rfl, rfl, trivial⟩ ⟨rfl, rfl, rfl, trivial⟩
            · -- 9
              refine Stpx.eff rfl rfl (Eff.yld (Yld.load Tryd.isAgg2 rfl rfl) rfl rfl) ?_
              refine ANx.all (rs := [5]) (by kernel_rfl) rfl ⟨?_, trivial⟩
              refine Stpx.effX rfl rfl (EffX.callW [0] [0] [0] rfl rfl Tryd.call53 rfl (impl_Decimal_c (by omega) (by omega)) (.own rfl) rfl (fun _ => rfl) ⟨rfl, trivial⟩ rfl (fun _ => rfl) (fun _ => rfl)) ?_
              rintro _ ⟨⟨⟩, hu11, rfl⟩
              refine ANx.all (rs := [6, 10]) (by kernel_rfl) rfl ⟨?_, ?_, trivial⟩
              · -- 6
                refine Stpx.eff rfl rfl (Eff.yld (Yld.cat rfl rfl (by first | (simp only [List.length_append, List.length_cons, List.length_nil]; omega) | omega)) rfl rfl) ?_
                refine ANx.all (rs := [7, 10]) (by kernel_rfl) rfl ⟨?_, ?_, trivial⟩
                · -- 7
                  refine Stpx.eff rfl rfl (Eff.yld (Yld.cat rfl rfl (by first | (simp only [List.length_append, List.length_cons, List.length_nil]; omega) | omega)) rfl rfl) ?_
                  refine ANx.all (rs := [10]) (by kernel_rfl) rfl ⟨?_, trivial⟩
                  refine Stpx.effX rfl rfl (EffX.callW [0] [0] [0] rfl rfl Tryd.call53 rfl (impl_Decimal_c (by omega) (by omega)) (.own rfl) rfl (fun _ => rfl) ⟨rfl, trivial⟩ rfl (fun _ => rfl) (fun _ => rfl)) ?_
                  rintro _ ⟨⟨⟩, hu16, rfl⟩
                  refine ANx.all (rs := [11]) (by kernel_rfl) rfl ⟨?_, trivial⟩
                  refine Stpx.eff rfl rfl (Eff.yld (Yld.cat rfl rfl (by first | (simp only [List.length_append, List.length_cons, List.length_nil]; omega) | omega)) rfl rfl) ?_
                  refine ANx.take 12 rfl (by kernel_rfl) (by kernel_rfl) (by kernel_rfl) rfl rfl rfl (YldA.assign rfl) ?_
                  exact ANx.doneC () (by kernel_rfl) ⟨rfl, trivial⟩ trivial ⟨rfl, rfl, rfl, rfl, rfl, trivial⟩ ⟨rfl, rfl, rfl, trivial⟩
                · -- 10
                  refine Stpx.effX rfl rfl (EffX.callW [0] [0] [0] rfl rfl Tryd.call53 rfl (impl_Decimal_c (by omega) (by omega)) (.own rfl) rfl (fun _ => rfl) ⟨rfl, trivial⟩ rfl (fun _ => rfl) (fun _ => rfl)) ?_
                  rintro _ ⟨⟨⟩, hu16, rfl⟩
                  refine ANx.all (rs := [7]) (by kernel_rfl) rfl ⟨?_, trivial⟩
                  refine Stpx.eff rfl rfl (Eff.yld (Yld.cat rfl rfl (by first | (simp only [List.length_append, List.length_cons, List.length_nil]; omega) | omega)) rfl rfl) ?_
                  refine ANx.all (rs := [11]) (by kernel_rfl) rfl ⟨?_, trivial⟩
                  refine Stpx.eff rfl rfl (Eff.yld (Yld.cat rfl rfl (by first | (simp only [List.length_append, List.length_cons, List.length_nil]; omega) | omega)) rfl rfl) ?_
                  refine ANx.take 12 rfl (by kernel_rfl) (by kernel_rfl) (by kernel_rfl) rfl rfl rfl (YldA.assign rfl) ?_
                  exact ANx.doneC () (by kernel_rfl) ⟨rfl, trivial⟩ trivial ⟨rfl, rfl, rfl, rfl, rfl, trivial⟩ ⟨rfl, rfl, rfl, trivial⟩
              · -- 10
                refine Stpx.effX rfl rfl (EffX.callW [0] [0] [0] rfl rfl Tryd.call53 rfl (impl_Decimal_c (by omega) (by omega)) (.own rfl) rfl (fun _ => rfl) ⟨rfl, trivial⟩ rfl (fun _ => rfl) (fun _ => rfl)) ?_
                rintro _ ⟨⟨⟩, hu16, rfl⟩
                refine ANx.all (rs := [6]) (by kernel_rfl) rfl ⟨?_, trivial⟩
                refine Stpx.eff rfl rfl (Eff.yld (Yld.cat rfl rfl (by first | (simp only [List.length_append, List.length_cons, List.length_nil]; omega) | omega)) rfl rfl) ?_
                refine ANx.all (rs := [7]) (by kernel_rfl) rfl ⟨?_, trivial⟩
                refine Stpx.eff rfl rfl (Eff.yld (Yld.cat rfl rfl (by first | (simp only [List.length_append, List.length_cons, List.length_nil]; omega) | omega)) rfl rfl) ?_
                refine ANx.all (rs := [11]) (by kernel_rfl) rfl ⟨?_, trivial⟩
                refine Stpx.eff rfl rfl (Eff.yld (Yld.cat rfl rfl (by first | (simp only [List.length_append, List.length_cons, List.length_nil]; omega) | omega)) rfl rfl) ?_
                refine ANx.take 12 rfl (by kernel_rfl) (by kernel_rfl) (by kernel_rfl) rfl rfl rfl (YldA.assign rfl) ?_
                exact ANx.doneC () (by kernel_rfl) ⟨rfl, trivial⟩ trivial ⟨rfl, rfl, rfl, rfl, rfl, trivial⟩ ⟨rfl, rfl, rfl, trivial⟩
          · -- 5
            refine Stpx.effX rfl rfl (EffX.callW [0] [0] [0] rfl rfl Tryd.call53 rfl (impl_Decimal_c (by omega) (by omega)) (.own rfl) rfl (fun _ => rfl) ⟨rfl, trivial⟩ rfl (fun _ => rfl) (fun _ => rfl)) ?_
            rintro _ ⟨⟨⟩, hu11, rfl⟩
            refine ANx.all (rs := [2, 9]) (by kernel_rfl) rfl ⟨?_, ?_, trivial⟩
            · -- 2
              refine Stpx.eff rfl rfl (Eff.yld (Yld.cat rfl rfl (by first | (simp only [List.length_append, List.length_cons, List.length_nil]; omega) | omega)) rfl rfl) ?_
              refine ANx.all (rs := [6, 9]) (by kernel_rfl) rfl ⟨?_, ?_, trivial⟩
              · -- 6
                refine Stpx.eff rfl rfl (Eff.yld (Yld.cat rfl rfl (by first | (simp only [List.length_append, List.length_cons, List.length_nil]; omega) | omega)) rfl rfl) ?_
                refine ANx.all (rs := [7, 9]) (by kernel_rfl) rfl ⟨?_, ?_, trivial⟩
                · -- 7
                  refine Stpx.eff rfl rfl (Eff.yld (Yld.cat rfl rfl (by first | (simp only [List.length_append, List.length_cons, List.length_nil]; omega) | omega)) rfl rfl) ?_
                  refine ANx.all (rs := [9]) (by kernel_rfl) rfl ⟨?_, trivial⟩
                  refine Stpx.eff rfl rfl (Eff.yld (Yld.load Tryd.isAgg2 rfl rfl) rfl rfl) ?_
                  refine ANx.all (rs := [10]) (by kernel_rfl) rfl ⟨?_, trivial⟩
                  refine Stpx.effX rfl rfl (EffX.callW [0] [0] [0] rfl rfl Tryd.call53 rfl (impl_Decimal_c (by omega) (by omega)) (.own rfl) rfl (fun _ => rfl) ⟨rfl, trivial⟩ rfl (fun _ => rfl) (fun _ => rfl)) ?_
                  rintro _ ⟨⟨⟩, hu16, rfl⟩
                  refine ANx.all (rs := [11]) (by kernel_rfl) rfl ⟨?_, trivial⟩
                  refine Stpx.eff rfl rfl (Eff.yld (Yld.cat rfl rfl (by first | (simp only [List.length_append, List.length_cons, List.length_nil]; omega) | omega)) rfl rfl) ?_
                  refine ANx.take 12 rfl (by kernel_rfl) (by kernel_rfl) (by kernel_rfl) rfl rfl rfl (YldA.assign rfl) ?_
                  exact ANx.doneC () (by kernel_rfl) ⟨rfl, trivial⟩ trivial ⟨rfl, rfl, rfl, rfl, rfl, trivial⟩ ⟨rfl, rfl, rfl, trivial⟩
                · -- 9
                  refine Stpx.eff rfl rfl (Eff.yld (Yld.load Tryd.isAgg2 rfl rfl) rfl rfl) ?_
                  refine ANx.all (rs := [7, 10]) (by kernel_rfl) rfl ⟨?_, ?_, trivial⟩
                  · -- 7
                    refine Stpx.eff rfl rfl (Eff.yld (Yld.cat rfl rfl (by first | (simp only [List.length_append, List.length_cons, List.length_nil]; omega) | omega)) rfl rfl) ?_
                    refine ANx.all (rs := [10]) (by kernel_rfl) rfl ⟨?_, trivial⟩
                    refine Stpx.effX rfl rfl (EffX.callW [0] [0] [0] rfl rfl Tryd.call53 rfl (impl_Decimal_c (by omega) (by omega)) (.own rfl) rfl (fun _ => rfl) ⟨rfl, trivial⟩ rfl (fun _ => rfl) (fun _ => rfl)) ?_
                    rintro _ ⟨⟨⟩, hu16, rfl⟩
                    refine ANx.all (rs := [11]) (by kernel_rfl) rfl ⟨?_, trivial⟩
                    refine Stpx.eff rfl rfl (Eff.yld (Yld.cat rfl rfl (by first | (simp only [List.length_append, List.length_cons, List.length_nil]; omega) | omega)) rfl rfl) ?_
                    refine ANx.take 12 rfl (by kernel_rfl) (by kernel_rfl) (by kernel_rfl) rfl rfl rfl (YldA.assign rfl) ?_
                    exact ANx.doneC () (by kernel_rfl) ⟨rfl, trivial⟩ trivial ⟨rfl, rfl, rfl, rfl, rfl, trivial⟩ ⟨rfl, rfl, rfl, trivial⟩
                  · -- 10
                    refine Stpx.effX rfl rfl (EffX.callW [0] [0] [0] rfl rfl Tryd.call53 rfl (impl_Decimal_c (by omega) (by omega)) (.own rfl) rfl (fun _ => rfl) ⟨rfl, trivial⟩ rfl (fun _ => rfl) (fun _ => rfl)) ?_
                    rintro _ ⟨⟨⟩, hu16, rfl⟩
                    refine ANx.all (rs := [7]) (by kernel_rfl) rfl ⟨?_, trivial⟩
                    refine Stpx.eff rfl rfl (Eff.yld (Yld.cat rfl rfl (by first | (simp only [List.length_append, List.length_cons, List.length_nil]; omega) | omega)) rfl rfl) ?_
                    refine ANx.all (rs := [11]) (by kernel_rfl) rfl ⟨?_, trivial⟩
                    refine Stpx.eff rfl rfl (Eff.yld (Yld.cat rfl rfl (by first | (simp only [List.length_append, List.length_cons, List.length_nil]; omega) | omega)) rfl rfl) ?_
                    refine ANx.take 12 rfl (by kernel_rfl) (by kernel_rfl) (by kernel_rfl) rfl rfl rfl (YldA.assign rfl) ?_
                    exact ANx.doneC () (by kernel_rfl) ⟨rfl, trivial⟩ trivial ⟨rfl, rfl, rfl, rfl, rfl, trivial⟩ ⟨rfl, rfl, rfl, trivial⟩
              · -- 9
                refine Stpx.eff rfl rfl (Eff.yld (Yld.load Tryd.isAgg2 rfl rfl) rfl rfl) ?_
                refine ANx.all (rs := [6, 10]) (by kernel_rfl) rfl ⟨?_, ?_, trivial⟩
                · -- 6
                  refine Stpx.eff rfl rfl (Eff.yld (Yld.cat rfl rfl (by first | (simp only [List.length_append, List.length_cons, List.length_nil]; omega) | omega)) rfl rfl) ?_
                  refine ANx.all (rs := [7, 10]) (by kernel_rfl) rfl ⟨?_, ?_, trivial⟩
                  · -- 7
                    refine Stpx.eff rfl rfl (Eff.yld (Yld.cat rfl rfl (by first | (simp only [List.length_append, List.length_cons, List.length_nil]; omega) | omega)) rfl rfl) ?_
                    refine ANx.all (rs := [10]) (by kernel_rfl) rfl ⟨?_, trivial⟩
                    refine Stpx.effX rfl rfl (EffX.callW [0] [0] [0] rfl rfl Tryd.call53 rfl (impl_Decimal_c (by omega) (by omega)) (.own rfl) rfl (fun _ => rfl) ⟨rfl, trivial⟩ rfl (fun _ => rfl) (fun _ => rfl)) ?_
                    rintro _ ⟨⟨⟩, hu16, rfl⟩
                    refine ANx.all (rs := [11]) (by kernel_rfl) rfl ⟨?_, trivial⟩
                    refine Stpx.eff rfl rfl (Eff.yld (Yld.cat rfl rfl (by first | (simp only [List.length_append, List.length_cons, List.length_nil]; omega) | omega)) rfl rfl) ?_
                    refine ANx.take 12 rfl (by kernel_rfl) (by kernel_rfl) (by kernel_rfl) rfl rfl rfl (YldA.assign rfl) ?_
                    exact ANx.doneC () (by kernel_rfl) ⟨rfl, trivial⟩ trivial ⟨rfl, rfl, rfl, rfl, rfl, trivial⟩ ⟨rfl, rfl, rfl, trivial⟩
                  · -- 10
                    refine Stpx.effX rfl rfl (EffX.callW [0] [0] [0] rfl rfl Tryd.call53 rfl (impl_Decimal_c (by omega) (by omega)) (.own rfl) rfl (fun _ => rfl) ⟨rfl, trivial⟩ rfl (fun _ => rfl) (fun _ => rfl)) ?_
                    rintro _ ⟨⟨⟩, hu16, rfl⟩
                    refine ANx.all (rs := [7]) (by kernel_rfl) rfl ⟨?_, trivial⟩
                    refine Stpx.eff rfl rfl (Eff.yld (Yld.cat rfl rfl (by first | (simp only [List.length_append, List.length_cons, List.length_nil]; omega) | omega)) rfl rfl) ?_
                    refine ANx.all (rs := [11]) (by kernel_rfl) rfl ⟨?_, trivial⟩
                    refine Stpx.eff rfl rfl (Eff.yld (Yld.cat rfl rfl (by first | (simp only [List.length_append, List.length_cons, List.length_nil]; omega) | omega)) rfl rfl) ?_
                    refine ANx.take 12 rfl (by kernel_rfl) (by kernel_rfl) (by kernel_rfl) rfl rfl rfl (YldA.assign rfl) ?_
                    exact ANx.doneC () (by kernel_rfl) ⟨rfl, trivial⟩ trivial ⟨rfl, rfl, rfl, rfl, rfl, trivial⟩ ⟨rfl, rfl, rfl, trivial⟩
                · -- 10
                  refine Stpx.effX rfl rfl (EffX.callW [0] [0] [0] rfl rfl Tryd.call53 rfl (impl_Decimal_c (by omega) (by omega)) (.own rfl) rfl (fun _ => rfl) ⟨rfl, trivial⟩ rfl (fun _ => rfl) (fun _ => rfl)) ?_
                  rintro _ ⟨⟨⟩, hu16, rfl⟩
                  refine ANx.all (rs := [6]) (by kernel_rfl) rfl ⟨?_, trivial⟩
                  refine Stpx.eff rfl rfl (Eff.yld (Yld.cat rfl rfl (by first | (simp only [List.length_append, List.length_cons, List.length_nil]; omega) | omega)) rfl rfl) ?_
                  refine ANx.all (rs := [7]) (by kernel_rfl) rfl ⟨?_, trivial⟩
                  refine Stpx.eff rfl rfl (Eff.yld (Yld.cat rfl rfl (by first | (simp only [List.length_append, List.length_cons, List.length_nil]; omega) | omega)) rfl rfl) ?_
                  refine ANx.all (rs := [11]) (by kernel_rfl) rfl ⟨?_, trivial⟩
                  refine Stpx.eff rfl rfl (Eff.yld (Yld.cat rfl rfl (by first | (simp only [List.length_append, List.length_cons, List.length_nil]; omega) | omega)) rfl rfl) ?_
                  refine ANx.take 12 rfl (by kernel_rfl) (by kernel_rfl) (by kernel_rfl) rfl rfl rfl (YldA.assign rfl) ?_
                  exact ANx.doneC () (by kernel_rfl) ⟨rfl, trivial⟩ trivial ⟨rfl, rfl, rfl, rfl, rfl, trivial⟩ ⟨rfl, rfl, rfl, trivial⟩
            · -- 9
              refine Stpx.eff rfl rfl (Eff.yld (Yld.load Tryd.isAgg2 rfl rfl) rfl rfl) ?_
              refine ANx.all (rs := [2, 10]) (by kernel_rfl) rfl ⟨?_, ?_, trivial⟩
              · -- 2
                refine Stpx.eff rfl rfl (Eff.yld (Yld.cat rfl rfl (by first | (simp only [List.length_append, List.length_cons, List.length_nil]; omega) | omega)) rfl rfl) ?_
                refine ANx.all (rs := [6, 10]) (by kernel_rfl) rfl ⟨?_, ?_, trivial⟩
                · -- 6
                  refine Stpx.eff rfl rfl (Eff.yld (Yld.cat rfl rfl (by first | (simp only [List.length_append, List.length_cons, List.length_nil]; omega) | omega)) rfl rfl) ?_
                  refine ANx.all (rs := [7, 10]) (by kernel_rfl) rfl ⟨?_, ?_, trivial⟩
                  · -- 7
                    refine Stpx.eff rfl rfl (Eff.yld (Yld.cat rfl rfl (by first | (simp only [List.length_append, List.length_cons, List.length_nil]; omega) | omega)) rfl rfl) ?_
                    refine ANx.all (rs := [10]) (by kernel_rfl) rfl ⟨?_, trivial⟩
                    refine Stpx.effX rfl rfl (EffX.callW [0] [0] [0] rfl rfl Tryd.call53 rfl (impl_Decimal_c (by omega) (by omega)) (.own rfl) rfl (fun _ => rfl) ⟨rfl, trivial⟩ rfl (fun _ => rfl) (fun _ => rfl)) ?_
                    rintro _ ⟨⟨⟩, hu16, rfl⟩
                    refine ANx.all (rs := [11]) (by kernel_rfl) rfl ⟨?_, trivial⟩
                    refine Stpx.eff rfl rfl (Eff.yld (Yld.cat rfl rfl (by first | (simp only [List.length_append, List.length_cons, List.length_nil]; omega) | omega)) rfl rfl) ?_
                    refine ANx.take 12 rfl (by kernel_rfl) (by kernel_rfl) (by kernel_rfl) rfl rfl rfl (YldA.assign rfl) ?_
                    exact ANx.doneC () (by kernel_rfl) ⟨rfl, trivial⟩ trivial ⟨rfl, rfl, rfl, rfl, rfl, trivial⟩ ⟨rfl, rfl, rfl, trivial⟩
                  · -- 10
                    refine Stpx.effX rfl rfl (EffX.callW [0] [0] [0] rfl rfl Tryd.call53 rfl (impl_Decimal_c (by omega) (by omega)) (.own rfl) rfl (fun _ => rfl) ⟨rfl, trivial⟩ rfl (fun _ => rfl) (fun _ => rfl)) ?_
                    rintro _ ⟨⟨⟩, hu16, rfl⟩
                    refine ANx.all (rs := [7]) (by kernel_rfl) rfl ⟨?_, trivial⟩
                    refine Stpx.eff rfl rfl (Eff.yld (Yld.cat rfl rfl (by first | (simp only [List.length_append, List.length_cons, List.length_nil]; omega) | omega)) rfl rfl) ?_
                    refine ANx.all (rs := [11]) (by kernel_rfl) rfl ⟨?_, trivial⟩
                    refine Stpx.eff rfl rfl (Eff.yld (Yld.cat rfl rfl (by first | (simp only [List.length_append, List.length_cons, List.length_nil]; omega) | omega)) rfl rfl) ?_
                    refine ANx.take 12 rfl (by kernel_rfl) (by kernel_rfl) (by kernel_rfl) rfl rfl rfl (YldA.assign rfl) ?_
                    exact ANx.doneC () (by kernel_rfl) ⟨rfl, trivial⟩ trivial ⟨rfl, rfl, rfl, rfl, rfl, trivial⟩ ⟨rfl, rfl, rfl, trivial⟩
                · -- 10
                  refine Stpx.effX rfl rfl (EffX.callW [0] [0] [0] rfl rfl Tryd.call53 rfl (impl_Decimal_c (by omega) (by omega)) (.own rfl) rfl (fun _ => rfl) ⟨rfl, trivial⟩ rfl (fun _ => rfl) (fun _ => rfl)) ?_
                  rintro _ ⟨⟨⟩, hu16, rfl⟩
                  refine ANx.all (rs := [6]) (by kernel_rfl) rfl ⟨?_, trivial⟩
                  refine Stpx.eff rfl rfl (Eff.yld (Yld.cat rfl rfl (by first | (simp only [List.length_append, List.length_cons, List.length_nil]; omega) | omega)) rfl rfl) ?_
                  refine ANx.all (rs := [7]) (by kernel_rfl) rfl ⟨?_, trivial⟩
                  refine Stpx.eff rfl rfl (Eff.yld (Yld.cat rfl rfl (by first | (simp only [List.length_append, List.length_cons, List.length_nil]; omega) | omega)) rfl rfl) ?_
                  refine ANx.all (rs := [11]) (by kernel_rfl) rfl ⟨?_, trivial⟩
                  refine Stpx.eff rfl rfl (Eff.yld (Yld.cat rfl rfl (by first | (simp only [List.length_append, List.length_cons, List.length_nil]; omega) | omega)) rfl rfl) ?_
                  refine ANx.take 12 rfl (by kernel_rfl) (by kernel_rfl) (by kernel_rfl) rfl rfl rfl (YldA.assign rfl) ?_
                  exact ANx.doneC () (by kernel_rfl) ⟨rfl, trivial⟩ trivial ⟨rfl, rfl, rfl, rfl, rfl, trivial⟩ ⟨rfl, rfl, rfl, trivial⟩
              · -- 10
                refine Stpx.effX rfl rfl (EffX.callW [0] [0] [0] rfl rfl Tryd.call53 rfl (impl_Decimal_c (by omega) (by omega)) (.own rfl) rfl (fun _ => rfl) ⟨rfl, trivial⟩ rfl (fun _ => rfl) (fun _ => rfl)) ?_
                rintro _ ⟨⟨⟩, hu16, rfl⟩
                refine ANx.all (rs := [2]) (by kernel_rfl) rfl ⟨?_, trivial⟩
                refine Stpx.eff rfl rfl (Eff.yld (Yld.cat rfl rfl (by first | (simp only [List.length_append, List.length_cons, List.length_nil]; omega) | omega)) rfl rfl) ?_
                refine ANx.all (rs := [6]) (by kernel_rfl) rfl ⟨?_, trivial⟩
                refine Stpx.eff rfl rfl (Eff.yld (Yld.cat rfl rfl (by first | (simp only [List.length_append, List.length_cons, List.length_nil]; omega) | omega)) rfl rfl) ?_
                refine ANx.all (rs := [7]) (by kernel_rfl) rfl ⟨?_, trivial⟩
                refine Stpx.eff rfl rfl (Eff.yld (Yld.cat rfl rfl (by first | (simp only [List.length_append, List.length_cons, List.length_nil]; omega) | omega)) rfl rfl) ?_
                refine ANx.all (rs := [11]) (by kernel_rfl) rfl ⟨?_, trivial⟩
                refine Stpx.eff rfl rfl (Eff.yld (Yld.cat rfl rfl (by first | (simp only [List.length_append, List.length_cons, List.length_nil]; omega) | omega)) rfl rfl) ?_
                refine ANx.take 12 rfl (by kernel_rfl) (by kernel_rfl) (by kernel_rfl) rfl rfl rfl (YldA.assign rfl) ?_
                exact ANx.doneC () (by kernel_rfl) ⟨rfl, trivial⟩ trivial ⟨rfl, rfl, rfl, rfl, rfl, trivial⟩ ⟨rfl, rfl, rfl, trivial⟩
          · -- 9
            refine Stpx.eff rfl rfl (Eff.yld (Yld.load Tryd.isAgg2 rfl rfl) rfl rfl) ?_
            refine ANx.all (rs := [2, 5]) (by kernel_rfl) rfl ⟨?_, ?_, trivial⟩
            · -- 2
              refine Stpx.eff rfl rfl (Eff.yld (Yld.cat rfl rfl (by first | (simp only [List.length_append, List.length_cons, List.length_nil]; omega) | omega)) rfl rfl) ?_
              refine ANx.all (rs := [5]) (by kernel_rfl) rfl ⟨?_, trivial⟩
              refine Stpx.effX rfl rfl (EffX.callW [0] [0] [0] rfl rfl Tryd.call53 rfl (impl_Decimal_c (by omega) (by omega)) (.own rfl) rfl (fun _ => rfl) ⟨rfl, trivial⟩ rfl (fun _ => rfl) (fun _ => rfl)) ?_
              rintro _ ⟨⟨⟩, hu11, rfl⟩
              refine ANx.all (rs := [6, 10]) (by kernel_rfl) rfl ⟨?_, ?_, trivial⟩
              · -- 6
                refine Stpx.eff rfl rfl (Eff.yld (Yld.cat rfl rfl (by first | (simp only [List.length_append, List.length_cons, List.length_nil]; omega) | omega)) rfl rfl) ?_
                refine ANx.all (rs := [7, 10]) (by kernel_rfl) rfl ⟨?_, ?_, trivial⟩
                · -- 7
                  refine Stpx.eff rfl rfl (Eff.yld (Yld.cat rfl rfl (by first | (simp only [List.length_append, List.length_cons, List.length_nil]; omega) | omega)) rfl rfl) ?_
                  refine ANx.all (rs := [10]) (by kernel_rfl) rfl ⟨?_, trivial⟩
                  refine Stpx.effX rfl rfl (EffX.callW [0] [0] [0] rfl rfl Tryd.call53 rfl (impl_Decimal_c (by omega) (by omega)) (.own rfl) rfl (fun _ => rfl) ⟨rfl, trivial⟩ rfl (fun _ => rfl) (fun _ => rfl)) ?_
                  rintro _ ⟨⟨⟩, hu16, rfl⟩
                  refine ANx.all (rs := [11]) (by kernel_rfl) rfl ⟨?_, trivial⟩
                  refine Stpx.eff rfl rfl (Eff.yld (Yld.cat rfl rfl (by first | (simp only [List.length_append, List.length_cons, List.length_nil]; omega) | omega)) rfl rfl) ?_
                  refine ANx.take 12 rfl (by kernel_rfl) (by kernel_rfl) (by kernel_rfl) rfl rfl rfl (YldA.assign rfl) ?_
                  exact ANx.doneC () (by kernel_rfl) ⟨rfl, trivial⟩ trivial ⟨rfl, rfl, rfl, rfl, rfl, trivial⟩ ⟨rfl, rfl, rfl, trivial⟩
                · -- 10
                  refine Stpx.effX rfl rfl (EffX.callW [0] [0] [0] rfl rfl Tryd.call53 rfl (impl_Decimal_c (by omega) (by omega)) (.own rfl) rfl (fun _ => rfl) ⟨rfl, trivial⟩ rfl (fun _ => rfl) (fun _ => rfl)) ?_
                  rintro _ ⟨⟨⟩, hu16, rfl⟩
                  refine ANx.all (rs := [7]) (by kernel_rfl) rfl ⟨?_, trivial⟩
                  refine Stpx.eff rfl rfl (Eff.yld (Yld.cat rfl rfl (by first | (simp only [List.length_append, List.length_cons, List.length_nil]; omega) | omega)) rfl rfl) ?_
                  refine ANx.all (rs := [11]) (by kernel_rfl) rfl ⟨?_, trivial⟩
                  refine Stpx.eff rfl rfl (Eff.yld (Yld.cat rfl rfl (by first | (simp only [List.length_append, List.length_cons, List.length_nil]; omega) | omega)) rfl rfl) ?_
                  refine ANx.take 12 rfl (by kernel_rfl) (by kernel_rfl) (by kernel_rfl) rfl rfl rfl (YldA.assign rfl) ?_
                  exact ANx.doneC () (by kernel_rfl) ⟨rfl, trivial⟩ trivial ⟨rfl, rfl, rfl, rfl, rfl, trivial⟩ ⟨rfl, rfl, rfl, trivial⟩
              · -- 10
                refine Stpx.effX rfl rfl (EffX.callW [0] [0] [0] rfl rfl Tryd.call53 rfl (impl_Decimal_c (by omega) (by omega)) (.own rfl) rfl (fun _ => rfl) ⟨rfl, trivial⟩ rfl (fun _ => rfl) (fun _ => rfl)) ?_
                rintro _ ⟨⟨⟩, hu16, rfl⟩
                refine ANx.all (rs := [6]) (by kernel_rfl) rfl ⟨?_, trivial⟩
                refine Stpx.eff rfl rfl (Eff.yld (Yld.cat rfl rfl (by first | (simp only [List.length_append, List.length_cons, List.length_nil]; omega) | omega)) rfl rfl) ?_
                refine ANx.all (rs := [7]) (by kernel_rfl) rfl ⟨?_, trivial⟩
                refine Stpx.eff rfl rfl (Eff.yld (Yld.cat rfl rfl (by first | (simp only [List.length_append, List.length_cons, List.length_nil]; omega) | omega)) rfl rfl) ?_
                refine ANx.all (rs := [11]) (by kernel_rfl) rfl ⟨?_, trivial⟩
                refine Stpx.eff rfl rfl (Eff.yld (Yld.cat rfl rfl (by first | (simp only [List.length_append, List.length_cons, List.length_nil]; omega) | omega)) rfl rfl) ?_
                refine ANx.take 12 rfl (by kernel_rfl) (by kernel_rfl) (by kernel_rfl) rfl rfl rfl (YldA.assign rfl) ?_
                exact ANx.doneC () (by kernel_rfl) ⟨rfl, trivial⟩ trivial ⟨rfl, rfl, rfl, rfl, rfl, trivial⟩ ⟨rfl, rfl, rfl, trivial⟩
            · -- 5
              refine Stpx.effX rfl rfl (EffX.callW [0] [0] [0] rfl rfl Tryd.call53 rfl (impl_Decimal_c (by omega) (by omega)) (.own rfl) rfl (fun _ => rfl) ⟨rfl, trivial⟩ rfl (fun _ => rfl) (fun _ => rfl)) ?_
              rintro _ ⟨⟨⟩, hu11, rfl⟩
              refine ANx.all (rs := [2, 10]) (by kernel_rfl) rfl ⟨?_, ?_, trivial⟩
              · -- 2
                refine Stpx.eff rfl rfl (Eff.yld (Yld.cat rfl rfl (by first | (simp only [List.length_append, List.length_cons, List.length_nil]; omega) | omega)) rfl rfl) ?_
                refine ANx.all (rs := [6, 10]) (by kernel_rfl) rfl ⟨?_, ?_, trivial⟩
                · -- 6
                  refine Stpx.eff rfl rfl (Eff.yld (Yld.cat rfl rfl (by first | (simp only [List.length_append, List.length_cons, List.length_nil]; omega) | omega)) rfl rfl) ?_
                  refine ANx.all (rs := [7, 10]) (by kernel_rfl) rfl ⟨?_, ?_, trivial⟩
                  · -- 7
                    refine Stpx.eff rfl rfl (Eff.yld (Yld.cat rfl rfl (by first | (simp only [List.length_append, List.length_cons, List.length_nil]; omega) | omega)) rfl rfl) ?_
                    refine ANx.all (rs := [10]) (by kernel_rfl) rfl ⟨?_, trivial⟩
                    refine Stpx.effX rfl rfl (EffX.callW [0] [0] [0] rfl rfl Tryd.call53 rfl (impl_Decimal_c (by omega) (by omega)) (.own rfl) rfl (fun _ => rfl) ⟨rfl, trivial⟩ rfl (fun _ => rfl) (fun _ => rfl)) ?_
                    rintro _ ⟨⟨⟩, hu16, rfl⟩
                    refine ANx.all (rs := [11]) (by kernel_rfl) rfl ⟨?_, trivial⟩
                    refine Stpx.eff rfl rfl (Eff.yld (Yld.cat rfl rfl (by first | (simp only [List.length_append, List.length_cons, List.length_nil]; omega) | omega)) rfl rfl) ?_
                    refine ANx.take 12 rfl (by kernel_rfl) (by kernel_rfl) (by kernel_rfl) rfl rfl rfl (YldA.assign rfl) ?_
                    exact ANx.doneC () (by kernel_rfl) ⟨rfl, trivial⟩ trivial ⟨rfl, rfl, rfl, rfl, rfl, trivial⟩ ⟨rfl, rfl, rfl, trivial⟩
                  · -- 10
                    refine Stpx.effX rfl rfl (EffX.callW [0] [0] [0] rfl rfl Tryd.call53 rfl (impl_Decimal_c (by omega) (by omega)) (.own rfl) rfl (fun _ => rfl) ⟨rfl, trivial⟩ rfl (fun _ => rfl) (fun _ => rfl)) ?_
                    rintro _ ⟨⟨⟩, hu16, rfl⟩
                    refine ANx.all (rs := [7]) (by kernel_rfl) rfl ⟨?_, trivial⟩
                    refine Stpx.eff rfl rfl (Eff.yld (Yld.cat rfl rfl (by first | (simp only [List.length_append, List.length_cons, List.length_nil]; omega) | omega)) rfl rfl) ?_
                    refine ANx.all (rs := [11]) (by kernel_rfl) rfl ⟨?_, trivial⟩
                    refine Stpx.eff rfl rfl (Eff.yld (Yld.cat rfl rfl (by first | (simp only [List.length_append, List.length_cons, List.length_nil]; omega) | omega)) rfl rfl) ?_
                    refine ANx.take 12 rfl (by kernel_rfl) (by kernel_rfl) (by kernel_rfl) rfl rfl rfl (YldA.assign rfl) ?_
                    exact ANx.doneC () (by kernel_rfl) ⟨rfl, trivial⟩ trivial ⟨rfl, rfl, rfl, rfl, rfl, trivial⟩ ⟨rfl, rfl, rfl, trivial⟩
                · -- 10
                  refine Stpx.effX rfl rfl (EffX.callW [0] [0] [0] rfl rfl Tryd.call53 rfl (impl_Decimal_c (by omega) (by omega)) (.own rfl) rfl (fun _ => rfl) ⟨rfl, trivial⟩ rfl (fun _ => rfl) (fun _ => rfl)) ?_
                  rintro _ ⟨⟨⟩, hu16, rfl⟩
                  refine ANx.all (rs := [6]) (by kernel_rfl) rfl ⟨?_, trivial⟩
                  refine Stpx.eff rfl rfl (Eff.yld (Yld.cat rfl rfl (by first | (simp only [List.length_append, List.length_cons, List.length_nil]; omega) | omega)) rfl rfl) ?_
                  refine ANx.all (rs := [7]) (by kernel_rfl) rfl ⟨?_, trivial⟩
                  refine Stpx.eff rfl rfl (Eff.yld (Yld.cat rfl rfl (by first | (simp only [List.length_append, List.length_cons, List.length_nil]; omega) | omega)) rfl rfl) ?_
                  refine ANx.all (rs := [11]) (by kernel_rfl) rfl ⟨?_, trivial⟩
                  refine Stpx.eff rfl rfl (Eff.yld (Yld.cat rfl rfl (by first | (simp only [List.length_append, List.length_cons, List.length_nil]; omega) | omega)) rfl rfl) ?_
                  refine ANx.take 12 rfl (by kernel_rfl) (by kernel_rfl) (by kernel_rfl) rfl rfl rfl (YldA.assign rfl) ?_
                  exact ANx.doneC () (by kernel_rfl) ⟨rfl, trivial⟩ trivial ⟨rfl, rfl, rfl, rfl, rfl, trivial⟩ ⟨rfl, rfl, rfl, trivial⟩
              · -- 10
                refine Stpx.effX rfl rfl (EffX.callW [0] [0] [0] rfl rfl Tryd.call53 rfl (impl_Decimal_c (by omega) (by omega)) (.own rfl) rfl (fun _ => rfl) ⟨rfl, trivial⟩ rfl (fun _ => rfl) (fun _ => rfl)) ?_
                rintro _ ⟨⟨⟩, hu16, rfl⟩
                refine ANx.all (rs := [2]) (by kernel_rfl) rfl ⟨?_, trivial⟩
                refine Stpx.eff rfl rfl (Eff.yld (Yld.cat rfl rfl (by first | (simp only [List.length_append, List.length_cons, List.length_nil]; omega) | omega)) rfl rfl) ?_
                refine ANx.all (rs := [6]) (by kernel_rfl) rfl ⟨?_, trivial⟩
                refine Stpx.eff rfl rfl (Eff.yld (Yld.cat rfl rfl (by first | (simp only [List.length_append, List.length_cons, List.length_nil]; omega) | omega)) rfl rfl) ?_
                refine ANx.all (rs := [7]) (by kernel_rfl) rfl ⟨?_, trivial⟩
                refine Stpx.eff rfl rfl (Eff.yld (Yld.cat rfl rfl (by first | (simp only [List.length_append, List.length_cons, List.length_nil]; omega) | omega)) rfl rfl) ?_
                refine ANx.all (rs := [11]) (by kernel_rfl) rfl ⟨?_, trivial⟩
                refine Stpx.eff rfl rfl (Eff.yld (Yld.cat rfl rfl (by first | (simp only [List.length_append, List.length_cons, List.length_nil]; omega) | omega)) rfl rfl) ?_
                refine ANx.take 12 rfl (by kernel_rfl) (by kernel_rfl) (by kernel_rfl) rfl rfl rfl (YldA.assign rfl) ?_
                exact ANx.doneC () (by kernel_rfl) ⟨rfl, trivial⟩ trivial ⟨rfl, rfl, rfl, rfl, rfl, trivial⟩ ⟨rfl, rfl, rfl, trivial⟩
        · -- 9
          refine Stpx.eff rfl rfl (Eff.yld (Yld.load Tryd.isAgg2 rfl rfl) rfl rfl) ?_
          refine ANx.all (rs := [2, 4]) (by kernel_rfl) rfl ⟨?_, ?_, trivial⟩
          · -- 2
            refine Stpx.eff rfl rfl (Eff.yld (Yld.cat rfl rfl (by first | (simp only [List.length_append, List.length_cons, List.length_nil]; omega) | omega)) rfl rfl) ?_
            refine ANx.all (rs := [4]) (by kernel_rfl) rfl ⟨?_, trivial⟩
            refine Stpx.eff rfl rfl (Eff.yld (Yld.load Tryd.isAgg2 rfl rfl) rfl rfl) ?_
            refine ANx.all (rs := [5]) (by kernel_rfl) rfl ⟨?_, trivial⟩
            refine Stpx.effX rfl rfl (EffX.callW [0] [0] [0] rfl rfl Tryd.call53 rfl (impl_Decimal_c (by omega) (by omega)) (.own rfl) rfl (fun _ => rfl) ⟨rfl, trivial⟩ rfl (fun _ => rfl) (fun _ => rfl)) ?_
            rintro _ ⟨⟨⟩, hu11, rfl⟩
            refine ANx.all (rs := [6, 10]) (by kernel_rfl) rfl ⟨?_, ?_, trivial⟩
            · -- 6
              refine Stpx.eff rfl rfl (Eff.yld (Yld.cat rfl rfl (by first | (simp only [List.length_append, List.length_cons, List.length_nil]; omega) | omega)) rfl rfl) ?_
              refine ANx.all (rs := [7, 10]) (by kernel_rfl) rfl ⟨?_, ?_, trivial⟩
              · -- 7
                refine Stpx.eff rfl rfl (Eff.yld (Yld.cat rfl rfl (by first | (simp only [List.length_append, List.length_cons, List.length_nil]; omega) | omega)) rfl rfl) ?_
                refine ANx.all (rs := [10]) (by kernel_rfl) rfl ⟨?_, trivial⟩
                refine Stpx.effX rfl rfl (EffX.callW [0] [0] [0] rfl rfl Tryd.call53 rfl (impl_Decimal_c (by omega) (by omega)) (.own rfl) rfl (fun _ => rfl) ⟨rfl, trivial⟩ rfl (fun _ => rfl) (fun _ => rfl)) ?_
                rintro _ ⟨⟨⟩, hu16, rfl⟩
                refine ANx.all (rs := [11]) (by kernel_rfl) rfl ⟨?_, trivial⟩
                refine Stpx.eff rfl rfl (Eff.yld (Yld.cat rfl rfl (by first | (simp only [List.length_append, List.length_cons, List.length_nil]; omega) | omega)) rfl rfl) ?_
                refine ANx.take 12 rfl (by kernel_rfl) (by kernel_rfl) (by kernel_rfl) rfl rfl rfl (YldA.assign rfl) ?_
                exact ANx.doneC () (by kernel_rfl) ⟨rfl, trivial⟩ trivial ⟨rfl, rfl, rfl, rfl, rfl, trivial⟩ ⟨rfl, rfl, rfl, trivial⟩
              · -- 10
                refine Stpx.effX rfl rfl (EffX.callW [0] [0] [0] rfl rfl Tryd.call53 rfl (impl_Decimal_c (by omega) (by omega)) (.own rfl) rfl (fun _ => rfl) ⟨rfl, trivial⟩ rfl (fun _ => rfl) (fun _ => rfl)) ?_
                rintro _ ⟨⟨⟩, hu16, rfl⟩
                refine ANx.all (rs := [7]) (by kernel_rfl) rfl ⟨?_, trivial⟩
                refine Stpx.eff rfl rfl (Eff.yld (Yld.cat rfl rfl (by first | (simp only [List.length_append, List.length_cons, List.length_nil]; omega) | omega)) rfl rfl) ?_
                refine ANx.all (rs := [11]) (by kernel_rfl) rfl ⟨?_, trivial⟩
                refine Stpx.eff rfl rfl (Eff.yld (Yld.cat rfl rfl (by first | (simp only [List.length_append, List.length_cons, List.length_nil]; omega) | omega)) rfl rfl) ?_
                refine ANx.take 12 rfl (by kernel_rfl) (by kernel_rfl) (by kernel_rfl) rfl rfl rfl (YldA.assign rfl) ?_
                exact ANx.doneC () (by kernel_rfl) ⟨rfl, trivial⟩ trivial ⟨rfl, rfl, rfl, rfl, rfl, trivial⟩ ⟨rfl, rfl, rfl, trivial⟩
            · -- 10
              refine Stpx.effX rfl rfl (EffX.callW [0] [0] [0] rfl rfl Tryd.call53 rfl (impl_Decimal_c (by omega) (by omega)) (.own rfl) rfl (fun _ => rfl) ⟨rfl, trivial⟩ rfl (fun _ => rfl) (fun _ => rfl)) ?_
              rintro _ ⟨⟨⟩, hu16, rfl⟩
              refine ANx.all (rs := [6]) (by kernel_rfl) rfl ⟨?_, trivial⟩
              refine Stpx.eff rfl rfl (Eff.yld (Yld.cat rfl rfl (by first | (simp only [List.length_append, List.length_cons, List.length_nil]; omega) | omega)) rfl rfl) ?_
              refine ANx.all (rs := [7]) (by kernel_rfl) rfl ⟨?_, trivial⟩
              refine Stpx.eff rfl rfl (Eff.yld (Yld.cat rfl rfl (by first | (simp only [List.length_append, List.length_cons, List.length_nil]; omega) | omega)) rfl rfl) ?_
              refine ANx.all (rs := [11]) (by kernel_rfl) rfl ⟨?_, trivial⟩
              refine Stpx.eff rfl rfl (Eff.yld (Yld.cat rfl rfl (by first | (simp only [List.length_append, List.length_cons, List.length_nil]; omega) | omega)) rfl rfl) ?_
              refine ANx.take 12 rfl (by kernel_rfl) (by kernel_rfl) (by kernel_rfl) rfl rfl rfl (YldA.assign rfl) ?_
              exact ANx.doneC () (by kernel_rfl) ⟨rfl, trivial⟩ trivial ⟨rfl, rfl, rfl, rfl, rfl, trivial⟩ ⟨rfl, rfl, rfl, trivial⟩
          · -- 4
            refine Stpx.eff rfl rfl (Eff.yld (Yld.load Tryd.isAgg2 rfl rfl) rfl rfl) ?_
            refine ANx.all (rs := [2, 5]) (by kernel_rfl) rfl ⟨?_, ?_, trivial⟩
            · -- 2
              refine Stpx.eff rfl rfl (Eff.yld (Yld.cat rfl rfl (by first | (simp only [List.length_append, List.length_cons, List.length_nil]; omega) | omega)) rfl rfl) ?_
              refine ANx.all (rs := [5]) (by kernel_rfl) rfl ⟨?_, trivial⟩
              refine Stpx.effX rfl rfl (EffX.callW [0] [0] [0] rfl rfl Tryd.call53 rfl (impl_Decimal_c (by omega) (by omega)) (.own rfl) rfl (fun _ => rfl) ⟨rfl, trivial⟩ rfl (fun _ => rfl) (fun _ => rfl)) ?_
              rintro _ ⟨⟨⟩, hu11, rfl⟩
              refine ANx.all (rs := [6, 10]) (by kernel_rfl) rfl ⟨?_, ?_, trivial⟩
              · -- 6
                refine Stpx.eff rfl rfl (Eff.yld (Yld.cat rfl rfl (by first | (simp only [List.length_append, List.length_cons, List.length_nil]; omega) | omega)) rfl rfl) ?_
                refine ANx.all (rs := [7, 10]) (by kernel_rfl) rfl ⟨?_, ?_, trivial⟩
                · -- 7
                  refine Stpx.eff rfl rfl (Eff.yld (Yld.cat rfl rfl (by first | (simp only [List.length_append, List.length_cons, List.length_nil]; omega) | omega)) rfl rfl) ?_
                  refine ANx.all (rs := [10]) (by kernel_rfl) rfl ⟨?_, trivial⟩
                  refine Stpx.effX rfl rfl (EffX.callW [0] [0] [0] rfl rfl Tryd.call53 rfl (impl_Decimal_c (by omega) (by omega)) (.own rfl) rfl (fun _ => rfl) ⟨rfl, trivial⟩ rfl (fun _ => rfl) (fun _ => rfl)) ?_
                  rintro _ ⟨⟨⟩, hu16, rfl⟩
                  refine ANx.all (rs := [11]) (by kernel_rfl) rfl ⟨?_, trivial⟩
                  refine Stpx.eff rfl rfl (Eff.yld (Yld.cat rfl rfl (by first | (simp only [List.length_append, List.length_cons, List.length_nil]; omega) | omega)) rfl rfl) ?_
                  refine ANx.take 12 rfl (by kernel_rfl) (by kernel_rfl) (by kernel_rfl) rfl rfl rfl (YldA.assign rfl) ?_
                  exact ANx.doneC () (by kernel_rfl) ⟨rfl, trivial⟩ trivial ⟨rfl, rfl, rfl, rfl, rfl, trivial⟩ ⟨rfl, rfl, rfl, trivial⟩
                · -- 10
                  refine Stpx.effX rfl rfl (EffX.callW [0] [0] [0] rfl rfl Tryd.call53 rfl (impl_Decimal_c (by omega) (by omega)) (.own rfl) rfl (fun _ => rfl) ⟨rfl, trivial⟩ rfl (fun _ => rfl) (fun _ => rfl)) ?_
                  rintro _ ⟨⟨⟩, hu16, rfl⟩
                  refine ANx.all (rs := [7]) (by kernel_rfl) rfl ⟨?_, trivial⟩
                  refine Stpx.eff rfl rfl (Eff.yld (Yld.cat rfl rfl (by first | (simp only [List.length_append, List.length_cons, List.length_nil]; omega) | omega)) rfl rfl) ?_
                  refine ANx.all (rs := [11]) (by kernel_rfl) rfl ⟨?_, trivial⟩
                  refine Stpx.eff rfl rfl (Eff.yld (Yld.cat rfl rfl (by first | (simp only [List.length_append, List.length_cons, List.length_nil]; omega) | omega)) rfl rfl) ?_
                  refine ANx.take 12 rfl (by kernel_rfl) (by kernel_rfl) (by kernel_rfl) rfl rfl rfl (YldA.assign rfl) ?_
                  exact ANx.doneC () (by kernel_rfl) ⟨rfl, trivial⟩ trivial ⟨rfl, rfl, rfl, rfl, rfl, trivial⟩ ⟨rfl, rfl, rfl, trivial⟩
              · -- 10
                refine Stpx.effX rfl rfl (EffX.callW [0] [0] [0] rfl rfl Tryd.call53 rfl (impl_Decimal_c (by omega) (by omega)) (.own rfl) rfl (fun _ => rfl) ⟨rfl, trivial⟩ rfl (fun _ => rfl) (fun _ => rfl)) ?_
                rintro _ ⟨⟨⟩, hu16, rfl⟩
                refine ANx.all (rs := [6]) (by kernel_rfl) rfl ⟨?_, trivial⟩
                refine Stpx.eff rfl rfl (Eff.yld (Yld.cat rfl rfl (by first | (simp only [List.length_append, List.length_cons, List.length_nil]; omega) | omega)) rfl rfl) ?_
                refine ANx.all (rs := [7]) (by kernel_rfl) rfl ⟨?_, trivial⟩
                refine Stpx.eff rfl rfl (Eff.yld (Yld.cat rfl rfl (by first | (simp only [List.length_append, List.length_cons, List.length_nil]; omega) | omega)) rfl rfl) ?_
                refine ANx.all (rs := [11]) (by kernel_rfl) rfl ⟨?_, trivial⟩
                refine Stpx.eff rfl rfl (Eff.yld (Yld.cat rfl rfl (by first | (simp only [List.length_append, List.length_cons, List.length_nil]; omega) | omega)) rfl rfl) ?_
                refine ANx.take 12 rfl (by kernel_rfl) (by kernel_rfl) (by kernel_rfl) rfl rfl rfl (YldA.assign rfl) ?_
                exact ANx.doneC () (by kernel_rfl) ⟨rfl, trivial⟩ trivial ⟨rfl, rfl, rfl, rfl, rfl, trivial⟩ ⟨rfl, rfl, rfl, trivial⟩
            · -- 5
              refine Stpx.effX rfl rfl (EffX.callW [0] [0] [0] rfl rfl Tryd.call53 rfl (impl_Decimal_c (by omega) (by omega)) (.own rfl) rfl (fun _ => rfl) ⟨rfl, trivial⟩ rfl (fun _ => rfl) (fun _ => rfl)) ?_
              rintro _ ⟨⟨⟩, hu11, rfl⟩
              refine ANx.all (rs := [2, 10]) (by kernel_rfl) rfl ⟨?_, ?_, trivial⟩
              · -- 2
                refine Stpx.eff rfl rfl (Eff.yld (Yld.cat rfl rfl (by first | (simp only [List.length_append, List.length_cons, List.length_nil]; omega) | omega)) rfl rfl) ?_
                refine ANx.all (rs := [6, 10]) (by kernel_rfl) rfl ⟨?_, ?_, trivial⟩
                · -- 6
                  refine Stpx.eff rfl rfl (Eff.yld (Yld.cat rfl rfl (by first | (simp only [List.length_append, List.length_cons, List.length_nil]; omega) | omega)) rfl rfl) ?_
                  refine ANx.all (rs := [7, 10]) (by kernel_rfl) rfl ⟨?_, ?_, trivial⟩
                  · -- 7
                    refine Stpx.eff rfl rfl (Eff.yld (Yld.cat rfl rfl (by first | (simp only [List.length_append, List.length_cons, List.length_nil]; omega) | omega)) rfl rfl) ?_
                    refine ANx.all (rs := [10]) (by kernel_rfl) rfl ⟨?_, trivial⟩
                    refine Stpx.effX rfl rfl (EffX.callW [0] [0] [0] rfl rfl Tryd.call53 rfl (impl_Decimal_c (by omega) (by omega)) (.own rfl) rfl (fun _ => rfl) ⟨rfl, trivial⟩ rfl (fun _ => rfl) (fun _ => rfl)) ?_
                    rintro _ ⟨⟨⟩, hu16, rfl⟩
                    refine ANx.all (rs := [11]) (by kernel_rfl) rfl ⟨?_, trivial⟩
                    refine Stpx.eff rfl rfl (Eff.yld (Yld.cat rfl rfl (by first | (simp only [List.length_append, List.length_cons, List.length_nil]; omega) | omega)) rfl rfl) ?_
                    refine ANx.take 12 rfl (by kernel_rfl) (by kernel_rfl) (by kernel_rfl) rfl rfl rfl (YldA.assign rfl) ?_
                    exact ANx.doneC () (by kernel_rfl) ⟨rfl, trivial⟩ trivial ⟨rfl, rfl, rfl, rfl, rfl, trivial⟩ ⟨rfl, rfl, rfl, trivial⟩
                  · -- 10
                    refine Stpx.effX rfl rfl (EffX.callW [0] [0] [0] rfl rfl Tryd.call53 rfl (impl_Decimal_c (by omega) (by omega)) (.own rfl) rfl (fun _ => rfl) ⟨rfl, trivial⟩ rfl (fun _ => rfl) (fun _ => rfl)) ?_
                    rintro _ ⟨⟨⟩, hu16, rfl⟩
                    refine ANx.all (rs := [7]) (by kernel_rfl) rfl ⟨?_, trivial⟩
                    refine Stpx.eff rfl rfl (Eff.yld (Yld.cat rfl rfl (by first | (simp only [List.length_append, List.length_cons, List.length_nil]; omega) | omega)) rfl rfl) ?_
                    refine ANx.all (rs := [11]) (by kernel_rfl) rfl ⟨?_, trivial⟩
                    refine Stpx.eff rfl rfl (Eff.yld (Yld.cat rfl rfl (by first | (simp only [List.length_append, List.length_cons, List.length_nil]; omega) | omega)) rfl rfl) ?_
                    refine ANx.take 12 rfl (by kernel_rfl) (by kernel_rfl) (by kernel_rfl) rfl rfl rfl (YldA.assign rfl) ?_
                    exact ANx.doneC () (by kernel_rfl) ⟨rfl, trivial⟩ trivial ⟨rfl, rfl, rfl, rfl, rfl, trivial⟩ ⟨rfl, rfl, rfl, trivial⟩
                · -- 10
                  refine Stpx.effX rfl rfl (EffX.callW [0] [0] [0] rfl rfl Tryd.call53 rfl (impl_Decimal_c (by omega) (by omega)) (.own rfl) rfl (fun _ => rfl) ⟨rfl, trivial⟩ rfl (fun _ => rfl) (fun _ => rfl)) ?_
                  rintro _ ⟨⟨⟩, hu16, rfl⟩
                  refine ANx.all (rs := [6]) (by kernel_rfl) rfl ⟨?_, trivial⟩
                  refine Stpx.eff rfl rfl (Eff.yld (Yld.cat rfl rfl (by first | (simp only [List.length_append, List.length_cons, List.length_nil]; omega) | omega)) rfl rfl) ?_
                  refine ANx.all (rs := [7]) (by kernel_rfl) rfl ⟨?_, trivial⟩
                  refine Stpx.eff rfl rfl (Eff.yld (Yld.cat rfl rfl (by first | (simp only [List.length_append, List.length_cons, List.length_nil]; omega) | omega)) rfl rfl) ?_
                  refine ANx.all (rs := [11]) (by kernel_rfl) rfl ⟨?_, trivial⟩
                  refine Stpx.eff rfl rfl (Eff.yld (Yld.cat rfl rfl (by first | (simp only [List.length_append, List.length_cons, List.length_nil]; omega) | omega)) rfl rfl) ?_
                  refine ANx.take 12 rfl (by kernel_rfl) (by kernel_rfl) (by kernel_rfl) rfl rfl rfl (YldA.assign rfl) ?_
                  exact ANx.doneC () (by kernel_rfl) ⟨rfl, trivial⟩ trivial ⟨rfl, rfl, rfl, rfl, rfl, trivial⟩ ⟨rfl, rfl, rfl, trivial⟩
              · -- 10
                refine Stpx.effX rfl rfl (EffX.callW [0] [0] [0] rfl rfl Tryd.call53 rfl (impl_Decimal_c (by omega) (by omega)) (.own rfl) rfl (fun _ => rfl) ⟨rfl, trivial⟩ rfl (fun _ => rfl) (fun _ => rfl)) ?_
                rintro _ ⟨⟨⟩, hu16, rfl⟩
                refine ANx.all (rs := [2]) (by kernel_rfl) rfl ⟨?_, trivial⟩
                refine Stpx.eff rfl rfl (Eff.yld (Yld.cat rfl rfl (by first | (simp only [List.length_append, List.length_cons, List.length_nil]; omega) | omega)) rfl rfl) ?_
                refine ANx.all (rs := [6]) (by kernel_rfl) rfl ⟨?_, trivial⟩
                refine Stpx.eff rfl rfl (Eff.yld (Yld.cat rfl rfl (by first | (simp only [List.length_append, List.length_cons, List.length_nil]; omega) | omega)) rfl rfl) ?_
                refine ANx.all (rs := [7]) (by kernel_rfl) rfl ⟨?_, trivial⟩
                refine Stpx.eff rfl rfl (Eff.yld (Yld.cat rfl rfl (by first | (simp only [List.length_append, List.length_cons, List.length_nil]; omega) | omega)) rfl rfl) ?_
                refine ANx.all (rs := [11]) (by kernel_rfl) rfl ⟨?_, trivial⟩
                refine Stpx.eff rfl rfl (Eff.yld (Yld.cat rfl rfl (by first | (simp only [List.length_append, List.length_cons, List.length_nil]; omega) | omega)) rfl rfl) ?_
                refine ANx.take 12 rfl (by kernel_rfl) (by kernel_rfl) (by kernel_rfl) rfl rfl rfl (YldA.assign rfl) ?_
                exact ANx.doneC () (by kernel_rfl) ⟨rfl, trivial⟩ trivial ⟨rfl, rfl, rfl, rfl, rfl, trivial⟩ ⟨rfl, rfl, rfl, trivial⟩
      · -- 4
        refine Stpx.eff rfl rfl (Eff.yld (Yld.load Tryd.isAgg2 rfl rfl) rfl rfl) ?_
        refine ANx.all (rs := [1, 5, 9]) (by kernel_rfl) rfl ⟨?_, ?_, ?_, trivial⟩
        · -- 1
          refine Stpx.eff rfl rfl (Eff.yld (Yld.load Tryd.isAgg9 rfl rfl) rfl rfl) ?_
          refine ANx.all (rs := [2, 5, 9]) (by kernel_rfl) rfl ⟨?_, ?_, ?_, trivial⟩
          · -- 2
            refine Stpx.eff rfl rfl (Eff.yld (Yld.cat rfl rfl (by first | (simp only [List.length_append, List.length_cons, List.length_nil]; omega) | omega)) rfl rfl) ?_
            refine ANx.all (rs := [5, 9]) (by kernel_rfl) rfl ⟨?_, ?_, trivial⟩
            · -- 5
              refine Stpx.effX rfl rfl (EffX.callW [0] [0] [0] rfl rfl Tryd.call53 rfl (impl_Decimal_c (by omega) (by omega)) (.own rfl) rfl (fun _ => rfl) ⟨rfl, trivial⟩ rfl (fun _ => rfl) (fun _ => rfl)) ?_
              rintro _ ⟨⟨⟩, hu11, rfl⟩
              refine ANx.all (rs := [6, 9]) (by kernel_rfl) rfl ⟨?_, ?_, trivial⟩
              · -- 6
                refine Stpx.eff rfl rfl (Eff.yld (Yld.cat rfl rfl (by first | (simp only [List.length_append, List.length_cons, List.length_nil]; omega) | omega)) rfl rfl) ?_
                refine ANx.all (rs := [7, 9]) (by kernel_rfl) rfl ⟨?_, ?_, trivial⟩
                · -- 7
                  refine Stpx.eff rfl rfl (Eff.yld (Yld.cat rfl rfl (by first | (simp only [List.length_append, List.length_cons, List.length_nil]; omega) | omega)) rfl rfl) ?_
                  refine ANx.all (rs := [9]) (by kernel_rfl) rfl ⟨?_, trivial⟩
                  refine Stpx.eff rfl rfl (Eff.yld (Yld.load Tryd.isAgg2 rfl rfl) rfl rfl) ?_
                  refine ANx.all (rs := [10]) (by kernel_rfl) rfl ⟨?_, trivial⟩
                  refine Stpx.effX rfl rfl (EffX.callW [0] [0] [0] rfl rfl Tryd.call53 rfl (impl_Decimal_c (by omega) (by omega)) (.own rfl) rfl (fun _ => rfl) ⟨rfl, trivial⟩ rfl (fun _ => rfl) (fun _ => rfl)) ?_
                  rintro _ ⟨⟨⟩, hu16, rfl⟩
                  refine ANx.all (rs := [11]) (by kernel_rfl) rfl ⟨?_, trivial⟩
                  refine Stpx.eff rfl rfl (Eff.yld (Yld.cat rfl rfl (by first | (simp only [List.length_append, List.length_cons, List.length_nil]; omega) | omega)) rfl rfl) ?_
                  refine ANx.take 12 rfl (by kernel_rfl) (by kernel_rfl) (by kernel_rfl) rfl rfl rfl (YldA.assign rfl) ?_
                  exact ANx.doneC () (by kernel_rfl) ⟨rfl, trivial⟩ trivial ⟨rfl, rfl, rfl, rfl, rfl, trivial⟩ ⟨rfl, rfl, rfl, trivial⟩
                · -- 9
                  refine Stpx.eff rfl rfl (Eff.yld (Yld.load Tryd.isAgg2 rfl rfl) rfl rfl) ?_
                  refine ANx.all (rs := [7, 10]) (by kernel_rfl) rfl ⟨?_, ?_, trivial⟩
                  · -- 7
                    refine Stpx.eff rfl rfl (Eff.yld (Yld.cat rfl rfl (by first | (simp only [List.length_append, List.length_cons, List.length_nil]; omega) | omega)) rfl rfl) ?_
                    refine ANx.all (rs := [10]) (by kernel_rfl) rfl ⟨?_, trivial⟩
                    refine Stpx.effX rfl rfl (EffX.callW [0] [0] [0] rfl rfl Tryd.call53 rfl (impl_Decimal_c (by omega) (by omega)) (.own rfl) rfl (fun _ => rfl) ⟨rfl, trivial⟩ rfl (fun _ => rfl) (fun _ => rfl)) ?_
                    rintro _ ⟨⟨⟩, hu16, rfl⟩
                    refine ANx.all (rs := [11]) (by kernel_rfl) rfl ⟨?_, trivial⟩
                    refine Stpx.eff rfl rfl (Eff.yld (Yld.cat rfl rfl (by first | (simp only [List.length_append, List.length_cons, List.length_nil]; omega) | omega)) rfl rfl) ?_
                    refine ANx.take 12 rfl (by kernel_rfl) (by kernel_rfl) (by kernel_rfl) rfl rfl rfl (YldA.assign rfl) ?_
                    exact ANx.doneC () (by kernel_rfl) ⟨rfl, trivial⟩ trivial ⟨rfl, rfl, rfl, rfl, rfl, trivial⟩ ⟨rfl, rfl, rfl, trivial⟩
                  · -- 10
                    refine Stpx.effX rfl rfl (EffX.callW [0] [0] [0] rfl rfl Tryd.call53 rfl (impl_Decimal_c (by omega) (by omega)) (.own rfl) rfl (fun _ => rfl) ⟨rfl, trivial⟩ rfl (fun _ => rfl) (fun _ => rfl)) ?_
                    rintro _ ⟨⟨⟩, hu16, rfl⟩
                    refine ANx.all (rs := [7]) (by kernel_rfl) rfl ⟨?_, trivial⟩
                    refine Stpx.eff rfl rfl (Eff.yld (Yld.cat rfl rfl (by first | (simp only [List.length_append, List.length_cons, List.length_nil]; omega) | omega)) rfl rfl) ?_
                    refine ANx.all (rs := [11]) (by kernel_rfl) rfl ⟨?_, trivial⟩
                    refine Stpx.eff rfl rfl (Eff.yld (Yld.cat rfl rfl (by first | (simp only [List.length_append, List.length_cons, List.length_nil]; omega) | omega)) rfl rfl) ?_
                    refine ANx.take 12 rfl (by kernel_rfl) (by kernel_rfl) (by kernel_rfl) rfl rfl rfl (YldA.assign rfl) ?_
                    exact ANx.doneC () (by kernel_rfl) ⟨rfl, trivial⟩ trivial ⟨rfl, rfl, rfl, rfl, rfl, trivial⟩ ⟨rfl, rfl, rfl, trivial⟩
              · -- 9
                refine Stpx.eff rfl rfl (Eff.yld (Yld.load Tryd.isAgg2 rfl rfl) rfl rfl) ?_
                refine ANx.all (rs := [6, 10]) (by kernel_rfl) rfl ⟨?_, ?_, trivial⟩
                · -- 6
                  refine Stpx.eff rfl rfl (Eff.yld (Yld.cat rfl rfl (by first | (simp only [List.length_append, List.length_cons, List.length_nil]; omega) | omega)) rfl rfl) ?_
                  refine ANx.all (rs := [7, 10]) (by kernel_rfl) rfl ⟨?_, ?_, trivial⟩
                  · -- 7
                    refine Stpx.eff rfl rfl (Eff.yld (Yld.cat rfl rfl (by first | (simp only [List.length_append, List.length_cons, List.length_nil]; omega) | omega)) rfl rfl) ?_
                    refine ANx.all (rs := [10]) (by kernel_rfl) rfl ⟨?_, trivial⟩
                    refine Stpx.effX rfl rfl (EffX.callW [0] [0] [0] rfl rfl Tryd.call53 rfl (impl_Decimal_c (by omega) (by omega)) (.own rfl) rfl (fun _ => rfl) ⟨rfl, trivial⟩ rfl (fun _ => rfl) (fun _ => rfl)) ?_
                    rintro _ ⟨⟨⟩, hu16, rfl⟩
                    refine ANx.all (rs := [11]) (by kernel_rfl) rfl ⟨?_, trivial⟩
                    refine Stpx.eff rfl rfl (Eff.yld (Yld.cat rfl rfl (by first | (simp only [List.length_append, List.length_cons, List.length_nil]; omega) | omega)) rfl rfl) ?_
                    refine ANx.take 12 rfl (by kernel_rfl) (by kernel_rfl) (by kernel_rfl) rfl rfl rfl (YldA.assign rfl) ?_
                    exact ANx.doneC () (by kernel_rfl) ⟨rfl, trivial⟩ trivial ⟨rfl, rfl, rfl, rfl, rfl, trivial⟩ ⟨rfl, rfl, rfl, trivial⟩
                  · -- 10
                    refine Stpx.effX rfl rfl (EffX.callW [0] [0] [0] rfl rfl Tryd.call53 rfl (impl_Decimal_c (by omega) (by omega)) (.own rfl) rfl (fun _ => rfl) ⟨rfl, trivial⟩ rfl (fun _ => rfl) (fun _ => rfl)) ?_
                    rintro _ ⟨⟨⟩, hu16, rfl⟩
                    refine ANx.all (rs := [7]) (by kernel_rfl) rfl ⟨?_, trivial⟩
                    refine Stpx.eff rfl rfl (Eff.yld (Yld.cat rfl rfl (by first | (simp only [List.length_append, List.length_cons, List.length_nil]; omega) | omega)) rfl rfl) ?_
                    refine ANx.all (rs := [11]) (by kernel_rfl) rfl ⟨?_, trivial⟩
                    refine Stpx.eff rfl rfl (Eff.yld (Yld.cat rfl rfl (by first | (simp only [List.length_append, List.length_cons, List.length_nil]; omega) | omega)) rfl rfl) ?_
                    refine ANx.take 12 rfl (by kernel_rfl) (by kernel_rfl) (by kernel_rfl) rfl rfl rfl (YldA.assign rfl) ?_
                    exact ANx.doneC () (by kernel_rfl) ⟨rfl, trivial⟩ trivial ⟨rfl, rfl, rfl, rfl, rfl, trivial⟩ ⟨rfl, rfl, rfl, trivial⟩
                · -- 10
                  refine Stpx.effX rfl rfl (EffX.callW [0] [0] [0] rfl rfl Tryd.call53 rfl (impl_Decimal_c (by omega) (by omega)) (.own rfl) rfl (fun _ => rfl) ⟨rfl, trivial⟩ rfl (fun _ => rfl) (fun _ => rfl)) ?_
                  rintro _ ⟨⟨⟩, hu16, rfl⟩
                  refine ANx.all (rs := [6]) (by kernel_rfl) rfl ⟨?_, trivial⟩
                  refine Stpx.eff rfl rfl (Eff.yld (Yld.cat rfl rfl (by first | (simp only [List.length_append, List.length_cons, List.length_nil]; omega) | omega)) rfl rfl) ?_
                  refine ANx.all (rs := [7]) (by kernel_rfl) rfl ⟨?_, trivial⟩
                  refine Stpx.eff rfl rfl (Eff.yld (Yld.cat rfl rfl (by first | (simp only [List.length_append, List.length_cons, List.length_nil]; omega) | omega)) rfl rfl) ?_
                  refine ANx.all (rs := [11]) (by kernel_rfl) rfl ⟨?_, trivial⟩
                  refine Stpx.eff rfl rfl (Eff.yld (Yld.cat rfl rfl (by first | (simp only [List.length_append, List.length_cons, List.length_nil]; omega) | omega)) rfl rfl) ?_
                  refine ANx.take 12 rfl (by kernel_rfl) (by kernel_rfl) (by kernel_rfl) rfl rfl rfl (YldA.assign rfl) ?_
                  exact ANx.doneC () (by kernel_rfl) ⟨rfl, trivial⟩ trivial ⟨rfl, rfl, rfl, rfl, rfl, trivial⟩ ⟨rfl, rfl, rfl, trivial⟩
            · -- 9
              refine Stpx.eff rfl rfl (Eff.yld (Yld.load Tryd.isAgg2 rfl rfl) rfl rfl) ?_
              refine ANx.all (rs := [5]) (by kernel_rfl) rfl ⟨?_, trivial⟩
              refine Stpx.effX rfl rfl (EffX.callW [0] [0] [0] rfl rfl Tryd.call53 rfl (impl_Decimal_c (by omega) (by omega)) (.own rfl) rfl (fun _ => rfl) ⟨rfl, trivial⟩ rfl (fun _ => rfl) (fun _ => rfl)) ?_
              rintro _ ⟨⟨⟩, hu11, rfl⟩
              refine ANx.all (rs := [6, 10]) (by kernel_rfl) rfl ⟨?_, ?_, trivial⟩
              · -- 6
                refine Stpx.eff rfl rfl (Eff.yld (Yld.cat rfl rfl (by first | (simp only [List.length_append, List.length_cons, List.length_nil]; omega) | omega)) rfl rfl) ?_
                refine ANx.all (rs := [7, 10]) (by kernel_rfl) rfl ⟨?_, ?_, trivial⟩
                · -- 7
                  refine Stpx.eff rfl rfl (Eff.yld (Yld.cat rfl rfl (by first | (simp only [List.length_append, List.length_cons, List.length_nil]; omega) | omega)) rfl rfl) ?_
                  refine ANx.all (rs := [10]) (by kernel_rfl) rfl ⟨?_, trivial⟩
                  refine Stpx.effX rfl rfl (EffX.callW [0] [0] [0] rfl rfl Tryd.call53 rfl (impl_Decimal_c (by omega) (by omega)) (.own rfl) rfl (fun _ => rfl) ⟨rfl, trivial⟩ rfl (fun _ => rfl) (fun _ => rfl)) ?_
                  rintro _ ⟨⟨⟩, hu16, rfl⟩
                  refine ANx.all (rs := [11]) (by kernel_rfl) rfl ⟨?_, trivial⟩
                  refine Stpx.eff rfl rfl (Eff.yld (Yld.cat rfl rfl (by first | (simp only [List.length_append, List.length_cons, List.length_nil]; omega) | omega)) rfl rfl) ?_
                  refine ANx.take 12 rfl (by kernel_rfl) (by kernel_rfl) (by kernel_rfl) rfl rfl rfl (YldA.assign rfl) ?_
                  exact ANx.doneC () (by kernel_rfl) ⟨rfl, trivial⟩ trivial ⟨rfl, rfl, rfl, rfl, rfl, trivial⟩ ⟨rfl, rfl, rfl, trivial⟩
                · -- 10
                  refine Stpx.effX rfl rfl (EffX.callW [0] [0] [0] rfl rfl Tryd.call53 rfl (impl_Decimal_c (by omega) (by omega)) (.own rfl) rfl (fun _ => rfl) ⟨rfl, trivial⟩ rfl (fun _ => rfl) (fun _ => rfl)) ?_
                  rintro _ ⟨⟨⟩, hu16, rfl⟩
                  refine ANx.all (rs := [7]) (by kernel_rfl) rfl ⟨?_, trivial⟩
                  refine Stpx.eff rfl rfl (Eff.yld (Yld.cat rfl rfl (by first | (simp only [List.length_append, List.length_cons, List.length_nil]; omega) | omega)) rfl rfl) ?_
                  refine ANx.all (rs := [11]) (by kernel_rfl) rfl ⟨?_, trivial⟩
                  refine Stpx.eff rfl rfl (Eff.yld (Yld.cat rfl rfl (by first | (simp only [List.length_append, List.length_cons, List.length_nil]; omega) | omega)) rfl rfl) ?_
                  refine ANx.take 12 rfl (by kernel_rfl) (by kernel_rfl) (by kernel_rfl) rfl rfl rfl (YldA.assign rfl) ?_
                  exact ANx.doneC () (by kernel_rfl) ⟨rfl, trivial⟩ trivial ⟨rfl, rfl, rfl, rfl, rfl, trivial⟩ ⟨rfl, rfl, rfl, trivial⟩
              · -- 10
                refine Stpx.effX rfl rfl (EffX.callW [0] [0] [0] rfl rfl Tryd.call53 rfl (impl_Decimal_c (by omega) (by omega)) (.own rfl) rfl (fun _ => rfl) ⟨rfl, trivial⟩ rfl (fun _ => rfl) (fun _ => rfl)) ?_
                rintro _ ⟨⟨⟩, hu16, rfl⟩
                refine ANx.all (rs := [6]) (by kernel_rfl) rfl ⟨?_, trivial⟩
                refine Stpx.eff rfl rfl (Eff.yld (Yld.cat rfl rfl (by first | (simp only [List.length_append, List.length_cons, List.length_nil]; omega) | omega)) rfl rfl) ?_
                refine ANx.all (rs := [7]) (by kernel_rfl) rfl ⟨?_, trivial⟩
                refine Stpx.eff rfl rfl (Eff.yld (Yld.cat rfl rfl (by first | (simp only [List.length_append, List.length_cons, List.length_nil]; omega) | omega)) rfl rfl) ?_
                refine ANx.all (rs := [11]) (by kernel_rfl) rfl ⟨?_, trivial⟩
                refine Stpx.eff rfl rfl (Eff.yld (Yld.cat rfl rfl (by first | (simp only [List.length_append, List.length_cons, List.length_nil]; omega) | omega)) rfl rfl) ?_
                refine ANx.take 12 rfl (by kernel_rfl) (by kernel_rfl) (by kernel_rfl) rfl rfl rfl (YldA.assign rfl) ?_
                exact ANx.doneC () (by kernel_rfl) ⟨rfl, trivial⟩ trivial ⟨rfl, rfl, rfl, rfl, rfl, trivial⟩ ⟨rfl, rfl, rfl, trivial⟩
          · -- 5
            refine Stpx.effX rfl rfl (EffX.callW [0] [0] [0] rfl rfl Tryd.call53 rfl (impl_Decimal_c (by omega) (by omega)) (.own rfl) rfl (fun _ => rfl) ⟨rfl, trivial⟩ rfl (fun _ => rfl) (fun _ => rfl)) ?_
            rintro _ ⟨⟨⟩, hu11, rfl⟩
            refine ANx.all (rs := [2, 9]) (by kernel_rfl) rfl ⟨?_, ?_, trivial⟩
            · -- 2
              refine Stpx.eff rfl rfl (Eff.yld (Yld.cat rfl rfl (by first | (simp only [List.length_append, List.length_cons, List.length_nil]; omega) | omega)) rfl rfl) ?_
              refine ANx.all (rs := [6, 9]) (by kernel_rfl) rfl ⟨?_, ?_, trivial⟩
              · -- 6
                refine Stpx.eff rfl rfl (Eff.yld (Yld.cat rfl rfl (by first | (simp only [List.length_append, List.length_cons, List.length_nil]; omega) | omega)) rfl rfl) ?_
                refine ANx.all (rs := [7, 9]) (by kernel_rfl) rfl ⟨?_, ?_, trivial⟩
                · -- 7
                  refine Stpx.eff rfl rfl (Eff.yld (Yld.cat rfl rfl (by first | (simp only [List.length_append, List.length_cons, List.length_nil]; omega) | omega)) rfl rfl) ?_
                  refine ANx.all (rs := [9]) (by kernel_rfl) rfl ⟨?_, trivial⟩
                  refine Stpx.eff rfl rfl (Eff.yld (Yld.load Tryd.isAgg2 rfl rfl) rfl rfl) ?_
                  refine ANx.all (rs := [10]) (by kernel_rfl) rfl ⟨?_, trivial⟩
                  refine Stpx.effX rfl rfl (EffX.callW [0] [0] [0] rfl rfl Tryd.call53 rfl (impl_Decimal_c (by omega) (by omega)) (.own rfl) rfl (fun _ => rfl) ⟨rfl, trivial⟩ rfl (fun _ => rfl) (fun _ => rfl)) ?_
                  rintro _ ⟨⟨⟩, hu16, rfl⟩
                  refine ANx.all (rs := [11]) (by kernel_rfl) rfl ⟨?_, trivial⟩
                  refine Stpx.eff rfl rfl (Eff.yld (Yld.cat rfl rfl (by first | (simp only [List.length_append, List.length_cons, List.length_nil]; omega) | omega)) rfl rfl) ?_
                  refine ANx.take 12 rfl (by kernel_rfl) (by kernel_rfl) (by kernel_rfl) rfl rfl rfl (YldA.assign rfl) ?_
                  exact ANx.doneC () (by kernel_rfl) ⟨rfl, trivial⟩ trivial ⟨rfl, rfl, rfl, rfl, rfl, trivial⟩ ⟨rfl, rfl, rfl, trivial⟩
                · -- 9
                  refine Stpx.eff rfl rfl (Eff.yld (Yld.load Tryd.isAgg2 rfl rfl) rfl rfl) ?_
                  refine ANx.all (rs := [7, 10]) (by kernel_rfl) rfl ⟨?_, ?_, trivial⟩
                  · -- 7
                    refine Stpx.eff rfl rfl (Eff.yld (Yld.cat rfl rfl (by first | (simp only [List.length_append, List.length_cons, List.length_nil]; omega) | omega)) rfl rfl) ?_
                    refine ANx.all (rs := [10]) (by kernel_rfl) rfl ⟨?_, trivial⟩
                    refine Stpx.effX rfl rfl (EffX.callW [0] [0] [0] rfl rfl Tryd.call53 rfl (impl_Decimal_c (by omega) (by omega)) (.own rfl) rfl (fun _ => rfl) ⟨rfl, trivial⟩ rfl (fun _ => rfl) (fun _ => rfl)) ?_
                    rintro _ ⟨⟨⟩, hu16, rfl⟩
                    refine ANx.all (rs := [11]) (by kernel_rfl) rfl ⟨?_, trivial⟩
                    refine Stpx.eff rfl rfl (Eff.yld (Yld.cat rfl rfl (by first | (simp only [List.length_append, List.length_cons, List.length_nil]; omega) | omega)) rfl rfl) ?_
                    refine ANx.take 12 rfl (by kernel_rfl) (by kernel_rfl) (by kernel_rfl) rfl rfl rfl (YldA.assign rfl) ?_
                    exact ANx.doneC () (by kernel_rfl) ⟨rfl, trivial⟩ trivial ⟨rfl, rfl, rfl, rfl, rfl, trivial⟩ ⟨rfl, rfl, rfl, trivial⟩
                  · -- 10
                    refine Stpx.effX rfl rfl (EffX.callW [0] [0] [0] rfl rfl Tryd.call53 rfl (impl_Decimal_c (by omega) (by omega)) (.own rfl) rfl (fun _ => rfl) ⟨rfl, trivial⟩ rfl (fun _ => rfl) (fun _ => rfl)) ?_
                    rintro _ ⟨⟨⟩, hu16, rfl⟩
                    refine ANx.all (rs := [7]) (by kernel_rfl) rfl ⟨?_, trivial⟩
                    refine Stpx.eff rfl rfl (Eff.yld (Yld.cat rfl rfl (by first | (simp only [List.length_append, List.length_cons, List.length_nil]; omega) | omega)) rfl rfl) ?_
                    refine ANx.all (rs := [11]) (by kernel_rfl) rfl ⟨?_, trivial⟩
                    refine Stpx.eff rfl rfl (Eff.yld (Yld.cat rfl rfl (by first | (simp only [List.length_append, List.length_cons, List.length_nil]; omega) | omega)) rfl rfl) ?_
                    refine ANx.take 12 rfl (by kernel_rfl) (by kernel_rfl) (by kernel_rfl) rfl rfl rfl (YldA.assign rfl) ?_
                    exact ANx.doneC () (by kernel_rfl) ⟨rfl, trivial⟩ trivial ⟨rfl, rfl, rfl, rfl, rfl, trivial⟩ ⟨rfl, rfl, rfl, trivial⟩
              · -- 9
                refine Stpx.eff rfl rfl (Eff.yld (Yld.load Tryd.isAgg2 rfl rfl) rfl rfl) ?_
                refine ANx.all (rs := [6, 10]) (by kernel_rfl) rfl ⟨?_, ?_, trivial⟩
                · -- 6
                  refine Stpx.eff rfl rfl (Eff.yld (Yld.cat rfl rfl (by first | (simp only [List.length_append, List.length_cons, List.length_nil]; omega) | omega)) rfl rfl) ?_
                  refine ANx.all (rs := [7, 10]) (by kernel_rfl) rfl ⟨?_, ?_, trivial⟩
                  · -- 7
                    refine Stpx.eff rfl rfl (Eff.yld (Yld.cat rfl rfl (by first | (simp only [List.length_append, List.length_cons, List.length_nil]; omega) | omega)) rfl rfl) ?_
                    refine ANx.all (rs := [10]) (by kernel_rfl) rfl ⟨?_, trivial⟩
                    refine Stpx.effX rfl rfl (EffX.callW [0] [0] [0] rfl rfl Tryd.call53 rfl (impl_Decimal_c (by omega) (by omega)) (.own rfl) rfl (fun _ => rfl) ⟨rfl, trivial⟩ rfl (fun _ => rfl) (fun _ => rfl)) ?_
                    rintro _ ⟨⟨⟩, hu16, rfl⟩
                    refine ANx.all (rs := [11]) (by kernel_rfl) rfl ⟨?_, trivial⟩
                    refine Stpx.eff rfl rfl (Eff.yld (Yld.cat rfl rfl (by first | (simp only [List.length_append, List.length_cons, List.length_nil]; omega) | omega)) rfl rfl) ?_
                    refine ANx.take 12 rfl (by kernel_rfl) (by kernel_rfl) (by kernel_rfl) rfl rfl rfl (YldA.assign rfl) ?_
                    exact ANx.doneC () (by kernel_rfl) ⟨rfl, trivial⟩ trivial ⟨rfl, rfl, rfl, rfl, rfl, trivial⟩ ⟨rfl, rfl, rfl, trivial⟩
                  · -- 10
                    refine Stpx.effX rfl rfl (EffX.callW [0] [0] [0] rfl rfl Tryd.call53 rfl (impl_Decimal_c (by omega) (by omega)) (.own rfl) rfl (fun _ => rfl) ⟨rfl, trivial⟩ rfl (fun _ => rfl) (fun _ => rfl)) ?_
                    rintro _ ⟨⟨⟩, hu16, rfl⟩
                    refine ANx.all (rs := [7]) (by kernel_rfl) rfl ⟨?_, trivial⟩
                    refine Stpx.eff rfl rfl (Eff.yld (Yld.cat rfl rfl (by first | (simp only [List.length_append, List.length_cons, List.length_nil]; omega) | omega)) rfl rfl) ?_
                    refine ANx.all (rs := [11]) (by kernel_rfl) rfl ⟨?_, trivial⟩
                    refine Stpx.eff rfl rfl (Eff.yld (Yld.cat rfl rfl (by first | (simp only [List.length_append, List.length_cons, List.length_nil]; omega) | omega)) rfl rfl) ?_
                    refine ANx.take 12 rfl (by kernel_rfl) (by kernel_rfl) (by kernel_rfl) rfl rfl rfl (YldA.assign rfl) ?_
                    exact ANx.doneC () (by kernel_rfl) ⟨rfl, trivial⟩ trivial ⟨rfl, rfl, rfl, rfl, rfl, trivial⟩ ⟨rfl, rfl, rfl, trivial⟩
                · -- 10
                  refine Stpx.effX rfl rfl (EffX.callW [0] [0] [0] rfl rfl Tryd.call53 rfl (impl_Decimal_c (by omega) (by omega)) (.own rfl) rfl (fun _ => rfl) ⟨rfl, trivial⟩ rfl (fun _ => rfl) (fun _ => rfl)) ?_
                  rintro _ ⟨⟨⟩, hu16, rfl⟩
                  refine ANx.all (rs := [6]) (by kernel_rfl) rfl ⟨?_, trivial⟩
                  refine Stpx.eff rfl rfl (Eff.yld (Yld.cat rfl rfl (by first | (simp only [List.length_append, List.length_cons, List.length_nil]; omega) | omega)) rfl rfl) ?_
                  refine ANx.all (rs := [7]) (by kernel_rfl) rfl ⟨?_, trivial⟩
                  refine Stpx.eff rfl rfl (Eff.yld (Yld.cat rfl rfl (by first | (simp only [List.length_append, List.length_cons, List.length_nil]; omega) | omega)) rfl rfl) ?_
                  refine ANx.all (rs := [11]) (by kernel_rfl) rfl ⟨?_, trivial⟩
                  refine Stpx.eff rfl rfl (Eff.yld (Yld.cat rfl rfl (by first | (simp only [List.length_append, List.length_cons, List.length_nil]; omega) | omega)) rfl rfl) ?_
                  refine ANx.take 12 rfl (by kernel_rfl) (by kernel_rfl) (by kernel_rfl) rfl rfl rfl (YldA.assign rfl) ?_
                  exact ANx.doneC () (by kernel_rfl) ⟨rfl, trivial⟩ trivial ⟨rfl, rfl, rfl, rfl, rfl, trivial⟩ ⟨rfl, rfl, rfl, trivial⟩
            · -- 9
              refine Stpx.eff rfl rfl (Eff.yld (Yld.load Tryd.isAgg2 rfl rfl) rfl rfl) ?_
              refine ANx.all (rs := [2, 10]) (by kernel_rfl) rfl ⟨?_, ?_, trivial⟩
              · -- 2
                refine Stpx.eff rfl rfl (Eff.yld (Yld.cat rfl rfl (by first | (simp only [List.length_append, List.length_cons, List.length_nil]; omega) | omega)) rfl rfl) ?_
                refine ANx.all (rs := [6, 10]) (by kernel_rfl) rfl ⟨?_, ?_, trivial⟩
                · -- 6
                  refine Stpx.eff rfl rfl (Eff.yld (Yld.cat rfl rfl (by first | (simp only [List.length_append, List.length_cons, List.length_nil]; omega) | omega)) rfl rfl) ?_
                  refine ANx.all (rs := [7, 10]) (by kernel_rfl) rfl ⟨?_, ?_, trivial⟩
                  · -- 7
                    refine Stpx.eff rfl rfl (Eff.yld (Yld.cat rfl rfl (by first | (simp only [List.length_append, List.length_cons, List.length_nil]; omega) | omega)) rfl rfl) ?_
                    refine ANx.all (rs := [10]) (by kernel_rfl) rfl ⟨?_, trivial⟩
                    refine Stpx.effX rfl rfl (EffX.callW [0] [0] [0] rfl rfl Tryd.call53 rfl (impl_Decimal_c (by omega) (by omega)) (.own rfl) rfl (fun _ => rfl) ⟨rfl, trivial⟩ rfl (fun _ => rfl) (fun _ => rfl)) ?_
                    rintro _ ⟨⟨⟩, hu16, rfl⟩
                    refine ANx.all (rs := [11]) (by kernel_rfl) rfl ⟨?_, trivial⟩
                    refine Stpx.eff rfl rfl (Eff.yld (Yld.cat rfl rfl (by first | (simp only [List.length_append, List.length_cons, List.length_nil]; omega) | omega)) rfl rfl) ?_
                    refine ANx.take 12 rfl (by kernel_rfl) (by kernel_rfl) (by kernel_rfl) rfl rfl rfl (YldA.assign rfl) ?_
                    exact ANx.doneC () (by kernel_rfl) ⟨rfl, trivial⟩ trivial ⟨rfl, rfl, rfl, rfl, rfl, trivial⟩ ⟨rfl, rfl, rfl, trivial⟩
                  · -- 10
                    refine Stpx.effX rfl rfl (EffX.callW [0] [0] [0] rfl rfl Tryd.call53 rfl (impl_Decimal_c (by omega) (by omega)) (.own rfl) rfl (fun _ => rfl) ⟨rfl, trivial⟩ rfl (fun _ => rfl) (fun _ => rfl)) ?_
                    rintro _ ⟨⟨⟩, hu16, rfl⟩
                    refine ANx.all (rs := [7]) (by kernel_rfl) rfl ⟨?_, trivial⟩
                    refine Stpx.eff rfl rfl (Eff.yld (Yld.cat rfl rfl (by first | (simp only [List.length_append, List.length_cons, List.length_nil]; omega) | omega)) rfl rfl) ?_
                    refine ANx.all (rs := [11]) (by kernel_rfl) rfl ⟨?_, trivial⟩
                    refine Stpx.eff rfl rfl (Eff.yld (Yld.cat rfl rfl (by first | (simp only [List.length_append, List.length_cons, List.length_nil]; omega) | omega)) rfl rfl) ?_
                    refine ANx.take 12 rfl (by kernel_rfl) (by kernel_rfl) (by kernel_rfl) rfl rfl rfl (YldA.assign rfl) ?_
                    exact ANx.doneC () (by kernel_rfl) ⟨rfl, trivial⟩ trivial ⟨rfl, rfl, rfl, rfl, rfl, trivial⟩ ⟨rfl, rfl, rfl, trivial⟩
                · -- 10
                  refine Stpx.effX rfl rfl (EffX.callW [0] [0] [0] rfl rfl Tryd.call53 rfl (impl_Decimal_c (by omega) (by omega)) (.own rfl) rfl (fun _ => rfl) ⟨rfl, trivial⟩ rfl (fun _ => rfl) (fun _ => rfl)) ?_
                  rintro _ ⟨⟨⟩, hu16, rfl⟩
                  refine ANx.all (rs := [6]) (by kernel_rfl) rfl ⟨?_, trivial⟩
                  refine Stpx.eff rfl rfl (Eff.yld (Yld.cat rfl rfl (by first | (simp only [List.length_append, List.length_cons, List.length_nil]; omega) | omega)) rfl rfl) ?_
                  refine ANx.all (rs := [7]) (by kernel_rfl) rfl ⟨?_, trivial⟩
                  refine Stpx.eff rfl rfl (Eff.yld (Yld.cat rfl rfl (by first | (simp only [List.length_append, List.length_cons, List.length_nil]; omega) | omega)) rfl rfl) ?_
                  refine ANx.all (rs := [11]) (by kernel_rfl) rfl ⟨?_, trivial⟩
                  refine Stpx.eff rfl rfl (Eff.yld (Yld.cat rfl rfl (by first | (simp only [List.length_append, List.length_cons, List.length_nil]; omega) | omega)) rfl rfl) ?_
                  refine ANx.take 12 rfl (by kernel_rfl) (by kernel_rfl) (by kernel_rfl) rfl rfl rfl (YldA.assign rfl) ?_
                  exact ANx.doneC () (by kernel_rfl) ⟨rfl, trivial⟩ trivial ⟨rfl, rfl, rfl, rfl, rfl, trivial⟩ ⟨rfl, rfl, rfl, trivial⟩
              · -- 10
                refine Stpx.effX rfl rfl (EffX.callW [0] [0] [0] rfl rfl Tryd.call53 rfl (impl_Decimal_c (by omega) (by omega)) (.own rfl) rfl (fun _ => rfl) ⟨rfl, trivial⟩ rfl (fun _ => rfl) (fun _ => rfl)) ?_
                rintro _ ⟨⟨⟩, hu16, rfl⟩
                refine ANx.all (rs := [2]) (by kernel_rfl) rfl ⟨?_, trivial⟩
                refine Stpx.eff rfl rfl (Eff.yld (Yld.cat rfl rfl (by first | (simp only [List.length_append, List.length_cons, List.length_nil]; omega) | omega)) rfl rfl) ?_
                refine ANx.all (rs := [6]) (by kernel_rfl) rfl ⟨?_, trivial⟩
                refine Stpx.eff rfl rfl (Eff.yld (Yld.cat rfl rfl (by first | (simp only [List.length_append, List.length_cons, List.length_nil]; omega) | omega)) rfl rfl) ?_
                refine ANx.all (rs := [7]) (by kernel_rfl) rfl ⟨?_, trivial⟩
                refine Stpx.eff rfl rfl (Eff.yld (Yld.cat rfl rfl (by first | (simp only [List.length_append, List.length_cons, List.length_nil]; omega) | omega)) rfl rfl) ?_
                refine ANx.all (rs := [11]) (by kernel_rfl) rfl ⟨?_, trivial⟩
                refine Stpx.eff rfl rfl (Eff.yld (Yld.cat rfl rfl (by first | (simp only [List.length_append, List.length_cons, List.length_nil]; omega) | omega)) rfl rfl) ?_
                refine ANx.take 12 rfl (by kernel_rfl) (by kernel_rfl) (by kernel_rfl) rfl rfl rfl (YldA.assign rfl) ?_
                exact ANx.doneC () (by kernel_rfl) ⟨rfl, trivial⟩ trivial ⟨rfl, rfl, rfl, rfl, rfl, trivial⟩ ⟨rfl, rfl, rfl, trivial⟩
          · -- 9
            refine Stpx.eff rfl rfl (Eff.yld (Yld.load Tryd.isAgg2 rfl rfl) rfl rfl) ?_
            refine ANx.all (rs := [2, 5]) (by kernel_rfl) rfl ⟨?_, ?_, trivial⟩
            · -- 2
              refine Stpx.eff rfl rfl (Eff.yld (Yld.cat rfl rfl (by first | (simp only [List.length_append, List.length_cons, List.length_nil]; omega) | omega)) rfl rfl) ?_
              refine ANx.all (rs := [5]) (by kernel_rfl) rfl ⟨?_, trivial⟩
              refine Stpx.effX rfl rfl (EffX.callW [0] [0] [0] rfl rfl Tryd.call53 rfl (impl_Decimal_c (by omega) (by omega)) (.own rfl) rfl (fun _ => rfl) ⟨rfl, trivial⟩ rfl (fun _ => rfl) (fun _ => rfl)) ?_
              rintro _ ⟨⟨⟩, hu11, rfl⟩
              refine ANx.all (rs := [6, 10]) (by kernel_rfl) rfl ⟨?_, ?_, trivial⟩
              · -- 6
                refine Stpx.eff rfl rfl (Eff.yld (Yld.cat rfl rfl (by first | (simp only [List.length_append, List.length_cons, List.length_nil]; omega) | omega)) rfl rfl) ?_
                refine ANx.all (rs := [7, 10]) (by kernel_rfl) rfl ⟨?_, ?_, trivial⟩
                · -- 7
                  refine Stpx.eff rfl rfl (Eff.yld (Yld.cat rfl rfl (by first | (simp only [List.length_append, List.length_cons, List.length_nil]; omega) | omega)) rfl rfl) ?_
                  refine ANx.all (rs := [10]) (by kernel_rfl) rfl ⟨?_, trivial⟩
                  refine Stpx.effX rfl rfl (EffX.callW [0] [0] [0] rfl rfl Tryd.call53 rfl (impl_Decimal_c (by omega) (by omega)) (.own rfl) rfl (fun _ => rfl) ⟨rfl, trivial⟩ rfl (fun _ => rfl) (fun _ => rfl)) ?_
                  rintro _ ⟨⟨⟩, hu16, rfl⟩
                  refine ANx.all (rs := [11]) (by kernel_rfl) rfl ⟨?_, trivial⟩
                  refine Stpx.eff rfl rfl (Eff.yld (Yld.cat rfl rfl (by first | (simp only [List.length_append, List.length_cons, List.length_nil]; omega) | omega)) rfl rfl) ?_
                  refine ANx.take 12 rfl (by kernel_rfl) (by kernel_rfl) (by kernel_rfl) rfl rfl rfl (YldA.assign rfl) ?_
                  exact ANx.doneC () (by kernel_rfl) ⟨rfl, trivial⟩ trivial ⟨rfl, rfl, rfl, rfl, rfl, trivial⟩ ⟨rfl, rfl, rfl, trivial⟩
                · -- 10
                  refine Stpx.effX rfl rfl (EffX.callW [0] [0] [0] rfl rfl Tryd.call53 rfl (impl_Decimal_c (by omega) (by omega)) (.own rfl) rfl (fun _ => rfl) ⟨rfl, trivial⟩ rfl (fun _ => rfl) (fun _ => rfl)) ?_
                  rintro _ ⟨⟨⟩, hu16, rfl⟩
                  refine ANx.all (rs := [7]) (by kernel_rfl) rfl ⟨?_, trivial⟩
                  refine Stpx.eff rfl rfl (Eff.yld (Yld.cat rfl rfl (by first | (simp only [List.length_append, List.length_cons, List.length_nil]; omega) | omega)) rfl rfl) ?_
                  refine ANx.all (rs := [11]) (by kernel_rfl) rfl ⟨?_, trivial⟩
                  refine Stpx.eff rfl rfl (Eff.yld (Yld.cat rfl rfl (by first | (simp only [List.length_append, List.length_cons, List.length_nil]; omega) | omega)) rfl rfl) ?_
                  refine ANx.take 12 rfl (by kernel_rfl) (by kernel_rfl) (by kernel_rfl) rfl rfl rfl (YldA.assign rfl) ?_
                  exact ANx.doneC () (by kernel_rfl) ⟨rfl, trivial⟩ trivial ⟨rfl, rfl, rfl, rfl, rfl, trivial⟩ ⟨rfl, rfl, rfl, trivial⟩
              · -- 10
                refine Stpx.effX rfl rfl (EffX.callW [0] [0] [0] rfl rfl Tryd.call53 rfl (impl_Decimal_c (by omega) (by omega)) (.own rfl) rfl (fun _ => rfl) ⟨rfl, trivial⟩ rfl (fun _ => rfl) (fun _ => rfl)) ?_
                rintro _ ⟨⟨⟩, hu16, rfl⟩
                refine ANx.all (rs := [6]) (by kernel_rfl) rfl ⟨?_, trivial⟩
                refine Stpx.eff rfl rfl (Eff.yld (Yld.cat rfl rfl (by first | (simp only [List.length_append, List.length_cons, List.length_nil]; omega) | omega)) rfl rfl) ?_
                refine ANx.all (rs := [7]) (by kernel_rfl) rfl ⟨?_, trivial⟩
                refine Stpx.eff rfl rfl (Eff.yld (Yld.cat rfl rfl (by first | (simp only [List.length_append, List.length_cons, List.length_nil]; omega) | omega)) rfl rfl) ?_
                refine ANx.all (rs := [11]) (by kernel_rfl) rfl ⟨?_, trivial⟩
                refine Stpx.eff rfl rfl (Eff.yld (Yld.cat rfl rfl (by first | (simp only [List.length_append, List.length_cons, List.length_nil]; omega) | omega)) rfl rfl) ?_
                refine ANx.take 12 rfl (by kernel_rfl) (by kernel_rfl) (by kernel_rfl) rfl rfl rfl (YldA.assign rfl) ?_
                exact ANx.doneC () (by kernel_rfl) ⟨rfl, trivial⟩ trivial ⟨rfl, rfl, rfl, rfl, rfl, trivial⟩ ⟨rfl, rfl, rfl, trivial⟩
            · -- 5
              refine Stpx.effX rfl rfl (EffX.callW [0] [0] [0] rfl rfl Tryd.call53 rfl (impl_Decimal_c (by omega) (by omega)) (.own rfl) rfl (fun _ => rfl) ⟨rfl, trivial⟩ rfl (fun _ => rfl) (fun _ => rfl)) ?_
              rintro _ ⟨⟨⟩, hu11, rfl⟩
              refine ANx.all (rs := [2, 10]) (by kernel_rfl) rfl ⟨?_, ?_, trivial⟩
              · -- 2
                refine Stpx.eff rfl rfl (Eff.yld (Yld.cat rfl rfl (by first | (simp only [List.length_append, List.length_cons, List.length_nil]; omega) | omega)) rfl rfl) ?_
                refine ANx.all (rs := [6, 10]) (by kernel_rfl) rfl ⟨?_, ?_, trivial⟩
                · -- 6
                  refine Stpx.eff rfl rfl (Eff.yld (Yld.cat rfl rfl (by first | (simp only [List.length_append, List.length_cons, List.length_nil]; omega) | omega)) rfl rfl) ?_
                  refine ANx.all (rs := [7, 10]) (by kernel_rfl) rfl ⟨?_, ?_, trivial⟩
                  · -- 7
                    refine Stpx.eff rfl rfl (Eff.yld (Yld.cat rfl rfl (by first | (simp only [List.length_append, List.length_cons, List.length_nil]; omega) | omega)) rfl rfl) ?_
                    refine ANx.all (rs := [10]) (by kernel_rfl) rfl ⟨?_, trivial⟩
                    refine Stpx.effX rfl rfl (EffX.callW [0] [0] [0] rfl rfl Tryd.call53 rfl (impl_Decimal_c (by omega) (by omega)) (.own rfl) rfl (fun _ => rfl) ⟨rfl, trivial⟩ rfl (fun _ => rfl) (fun _ => rfl)) ?_
                    rintro _ ⟨⟨⟩, hu16, rfl⟩
                    refine ANx.all (rs := [11]) (by kernel_rfl) rfl ⟨?_, trivial⟩
                    refine Stpx.eff rfl rfl (Eff.yld (Yld.cat rfl rfl (by first | (simp only [List.length_append, List.length_cons, List.length_nil]; omega) | omega)) rfl rfl) ?_
                    refine ANx.take 12 rfl (by kernel_rfl) (by kernel_rfl) (by kernel_rfl) rfl rfl rfl (YldA.assign rfl) ?_
                    exact ANx.doneC () (by kernel_rfl) ⟨rfl, trivial⟩ trivial ⟨rfl, rfl, rfl, rfl, rfl, trivial⟩ ⟨rfl, rfl, rfl, trivial⟩
                  · -- 10
                    refine Stpx.effX rfl rfl (EffX.callW [0] [0] [0] rfl rfl Tryd.call53 rfl (impl_Decimal_c (by omega) (by omega)) (.own rfl) rfl (fun _ => rfl) ⟨rfl, trivial⟩ rfl (fun _ => rfl) (fun _ => rfl)) ?_
                    rintro _ ⟨⟨⟩, hu16, rfl⟩
                    refine ANx.all (rs := [7]) (by kernel_rfl) rfl ⟨?_, trivial⟩
                    refine Stpx.eff rfl rfl (Eff.yld (Yld.cat rfl rfl (by first | (simp only [List.length_append, List.length_cons, List.length_nil]; omega) | omega)) rfl rfl) ?_
                    refine ANx.all (rs := [11]) (by kernel_rfl) rfl ⟨?_, trivial⟩
                    refine Stpx.eff rfl rfl (Eff.yld (Yld.cat rfl rfl (by first | (simp only [List.length_append, List.length_cons, List.length_nil]; omega) | omega)) rfl rfl) ?_
                    refine ANx.take 12 rfl (by kernel_rfl) (by kernel_rfl) (by kernel_rfl) rfl rfl rfl (YldA.assign rfl) ?_
                    exact ANx.doneC () (by kernel_rfl) ⟨rfl, trivial⟩ trivial ⟨rfl, rfl, rfl, rfl, rfl, trivial⟩ ⟨rfl, rfl, rfl, trivial⟩
                · -- 10
                  refine Stpx.effX rfl rfl (EffX.callW [0] [0] [0] rfl rfl Tryd.call53 rfl (impl_Decimal_c (by omega) (by omega)) (.own rfl) rfl (fun _ => rfl) ⟨rfl, trivial⟩ rfl (fun _ => rfl) (fun _ => rfl)) ?_
                  rintro _ ⟨⟨⟩, hu16, rfl⟩
                  refine ANx.all (rs := [6]) (by kernel_rfl) rfl ⟨?_, trivial⟩
                  refine Stpx.eff rfl rfl (Eff.yld (Yld.cat rfl rfl (by first | (simp only [List.length_append, List.length_cons, List.length_nil]; omega) | omega)) rfl rfl) ?_
                  refine ANx.all (rs := [7]) (by kernel_rfl) rfl ⟨?_, trivial⟩
                  refine Stpx.eff rfl rfl (Eff.yld (Yld.cat rfl rfl (by first | (simp only [List.length_append, List.length_cons, List.length_nil]; omega) | omega)) rfl rfl) ?_
                  refine ANx.all (rs := [11]) (by kernel_rfl) rfl ⟨?_, trivial⟩
                  refine Stpx.eff rfl rfl (Eff.yld (Yld.cat rfl rfl (by first | (simp only [List.length_append, List.length_cons, List.length_nil]; omega) | omega)) rfl rfl) ?_
                  refine ANx.take 12 rfl (by kernel_rfl) (by kernel_rfl) (by kernel_rfl) rfl rfl rfl (YldA.assign rfl) ?_
                  exact ANx.doneC () (by kernel_rfl) ⟨rfl, trivial⟩ trivial ⟨rfl, rfl, rfl, rfl, rfl, trivial⟩ ⟨rfl, rfl, rfl, trivial⟩
              · -- 10
                refine Stpx.effX rfl rfl (EffX.callW [0] [0] [0] rfl rfl Tryd.call53 rfl (impl_Decimal_c (by omega) (by omega)) (.own rfl) rfl (fun _ => rfl) ⟨rfl, trivial⟩ rfl (fun _ => rfl) (fun _ => rfl)) ?_
                rintro _ ⟨⟨⟩, hu16, rfl⟩
                refine ANx.all (rs := [2]) (by kernel_rfl) rfl ⟨?_, trivial⟩
                refine Stpx.eff rfl rfl (Eff.yld (Yld.cat rfl rfl (by first | (simp only [List.length_append, List.length_cons, List.length_nil]; omega) | omega)) rfl rfl) ?_
                refine ANx.all (rs := [6]) (by kernel_rfl) rfl ⟨?_, trivial⟩
                refine Stpx.eff rfl rfl (Eff.yld (Yld.cat rfl rfl (by first | (simp only [List.length_append, List.length_cons, List.length_nil]; omega) | omega)) rfl rfl) ?_
                refine ANx.all (rs := [7]) (by kernel_rfl) rfl ⟨?_, trivial⟩
                refine Stpx.eff rfl rfl (Eff.yld (Yld.cat rfl rfl (by first | (simp only [List.length_append, List.length_cons, List.length_nil]; omega) | omega)) rfl rfl) ?_
                refine ANx.all (rs := [11]) (by kernel_rfl) rfl ⟨?_, trivial⟩
                refine Stpx.eff rfl rfl (Eff.yld (Yld.cat rfl rfl (by first | (simp only [List.length_append, List.length_cons, List.length_nil]; omega) | omega)) rfl rfl) ?_
                refine ANx.take 12 rfl (by kernel_rfl) (by kernel_rfl) (by kernel_rfl) rfl rfl rfl (YldA.assign rfl) ?_
                exact ANx.doneC () (by kernel_rfl) ⟨rfl, trivial⟩ trivial ⟨rfl, rfl, rfl, rfl, rfl, trivial⟩ ⟨rfl, rfl, rfl, trivial⟩
        · -- 5
          refine Stpx.effX rfl rfl (EffX.callW [0] [0] [0] rfl rfl Tryd.call53 rfl (impl_Decimal_c (by omega) (by omega)) (.own rfl) rfl (fun _ => rfl) ⟨rfl, trivial⟩ rfl (fun _ => rfl) (fun _ => rfl)) ?_
          rintro _ ⟨⟨⟩, hu11, rfl⟩
          refine ANx.all (rs := [1, 9]) (by kernel_rfl) rfl ⟨?_, ?_, trivial⟩
          · -- 1
            refine Stpx.eff rfl rfl (Eff.yld (Yld.load Tryd.isAgg9 rfl rfl) rfl rfl) ?_
            refine ANx.all (rs := [2, 9]) (by kernel_rfl) rfl ⟨?_, ?_, trivial⟩
            · -- 2
              refine Stpx.eff rfl rfl (Eff.yld (Yld.cat rfl rfl (by first | (simp only [List.length_append, List.length_cons, List.length_nil]; omega) | omega)) rfl rfl) ?_
              refine ANx.all (rs := [6, 9]) (by kernel_rfl) rfl ⟨?_, ?_, trivial⟩
              · -- 6
                refine Stpx.eff rfl rfl (Eff.yld (Yld.cat rfl rfl (by first | (simp only [List.length_append, List.length_cons, List.length_nil]; omega) | omega)) rfl rfl) ?_
                refine ANx.all (rs := [7, 9]) (by kernel_rfl) rfl ⟨?_, ?_, trivial⟩
                · -- 7
                  refine Stpx.eff rfl rfl (Eff.yld (Yld.cat rfl rfl (by first | (simp only [List.length_append, List.length_cons, List.length_nil]; omega) | omega)) rfl rfl) ?_
                  refine ANx.all (rs := [9]) (by kernel_rfl) rfl ⟨?_, trivial⟩
                  refine Stpx.eff rfl rfl (Eff.yld (Yld.load Tryd.isAgg2 rfl rfl) rfl rfl) ?_
                  refine ANx.all (rs := [10]) (by kernel_rfl) rfl ⟨?_, trivial⟩
                  refine Stpx.effX rfl rfl (EffX.callW [0] [0] [0] rfl rfl Tryd.call53 rfl (impl_Decimal_c (by omega) (by omega)) (.own rfl) rfl (fun _ => rfl) ⟨rfl, trivial⟩ rfl (fun _ => rfl) (fun _ => rfl)) ?_
                  rintro _ ⟨⟨⟩, hu16, rfl⟩
                  refine ANx.all (rs := [11]) (by kernel_rfl) rfl ⟨?_, trivial⟩
                  refine Stpx.eff rfl rfl (Eff.yld (Yld.cat rfl rfl (by first | (simp only [List.length_append, List.length_cons, List.length_nil]; omega) | omega)) rfl rfl) ?_
                  refine ANx.take 12 rfl (by kernel_rfl) (by kernel_rfl) (by kernel_rfl) rfl rfl rfl (YldA.assign rfl) ?_
                  exact ANx.doneC () (by kernel_rfl) ⟨rfl, trivial⟩ trivial ⟨rfl, rfl, rfl, rfl, rfl, trivial⟩ ⟨rfl, rfl, rfl, trivial⟩
                · -- 9
                  refine Stpx.eff rfl rfl (Eff.yld (Yld.load Tryd.isAgg2 rfl rfl) rfl rfl) ?_
                  refine ANx.all (rs := [7, 10]) (by kernel_rfl) rfl ⟨?_, ?_, trivial⟩
                  · -- 7
                    refine Stpx.eff rfl rfl (Eff.yld (Yld.cat rfl rfl (by first | (simp only [List.length_append, List.length_cons, List.length_nil]; omega) | omega)) rfl rfl) ?_
                    refine ANx.all (rs := [10]) (by kernel_rfl) rfl ⟨?_, trivial⟩
                    refine Stpx.effX rfl rfl (EffX.callW [0] [0] [0] rfl rfl Tryd.call53 rfl (impl_Decimal_c (by omega) (by omega)) (.own rfl) rfl (fun _ => rfl) ⟨rfl, trivial⟩ rfl (fun _ => rfl) (fun _ => rfl)) ?_
                    rintro _ ⟨⟨⟩, hu16, rfl⟩
                    refine ANx.all (rs := [11]) (by kernel_rfl) rfl ⟨?_, trivial⟩
                    refine Stpx.eff rfl rfl (Eff.yld (Yld.cat rfl rfl (by first | (simp only [List.length_append, List.length_cons, List.length_nil]; omega) | omega)) rfl rfl) ?_
                    refine ANx.take 12 rfl (by kernel_rfl) (by kernel_rfl) (by kernel_rfl) rfl rfl rfl (YldA.assign rfl) ?_
                    exact ANx.doneC () (by kernel_rfl) ⟨rfl, trivial⟩ trivial ⟨rfl, rfl, rfl, rfl, rfl, trivial⟩ ⟨rfl, rfl, rfl, trivial⟩
                  · -- 10
                    refine Stpx.effX rfl rfl (EffX.callW [0] [0] [0] rfl rfl Tryd.call53 rfl (impl_Decimal_c (by omega) (by omega)) (.own rfl) rfl (fun _ => rfl) ⟨rfl, trivial⟩ rfl (fun _ => rfl) (fun _ => rfl)) ?_
                    rintro _ ⟨⟨⟩, hu16, rfl⟩
                    refine ANx.all (rs := [7]) (by kernel_rfl) rfl ⟨?_, trivial⟩
                    refine Stpx.eff rfl rfl (Eff.yld (Yld.cat rfl rfl (by first | (simp only [List.length_append, List.length_cons, List.length_nil]; omega) | omega)) rfl rfl) ?_
                    refine ANx.all (rs := [11]) (by kernel_rfl) rfl ⟨?_, trivial⟩
                    refine Stpx.eff rfl rfl (Eff.yld (Yld.cat rfl rfl (by first | (simp only [List.length_append, List.length_cons, List.length_nil]; omega) | omega)) rfl rfl) ?_
                    refine ANx.take 12 rfl (by kernel_rfl) (by kernel_rfl) (by kernel_rfl) rfl rfl rfl (YldA.assign rfl) ?_
                    exact ANx.doneC () (by kernel_rfl) ⟨rfl, trivial⟩ trivial ⟨rfl, rfl, rfl, rfl, rfl, trivial⟩ ⟨rfl, rfl, rfl, trivial⟩
              · -- 9
                refine Stpx.eff rfl rfl (Eff.yld (Yld.load Tryd.isAgg2 rfl rfl) rfl rfl) ?_
                refine ANx.all (rs := [6, 10]) (by kernel_rfl) rfl ⟨?_, ?_, trivial⟩
                · -- 6
                  refine Stpx.eff rfl rfl (Eff.yld (Yld.cat rfl rfl (by first | (simp only [List.length_append, List.length_cons, List.length_nil]; omega) | omega)) rfl rfl) ?_
                  refine ANx.all (rs := [7, 10]) (by kernel_rfl) rfl ⟨?_, ?_, trivial⟩
                  · -- 7
                    refine Stpx.eff rfl rfl (Eff.yld (Yld.cat rfl rfl (by first | (simp only [List.length_append, List.length_cons, List.length_nil]; omega) | omega)) rfl rfl) ?_
                    refine ANx.all (rs := [10]) (by kernel_rfl) rfl ⟨?_, trivial⟩
                    refine Stpx.effX rfl rfl (EffX.callW [0] [0] [0] rfl rfl Tryd.call53 rfl (impl_Decimal_c (by omega) (by omega)) (.own rfl) rfl (fun _ => rfl) ⟨rfl, trivial⟩ rfl (fun _ => rfl) (fun _ => rfl)) ?_
                    rintro _ ⟨⟨⟩, hu16, rfl⟩
                    refine ANx.all (rs := [11]) (by kernel_rfl) rfl ⟨?_, trivial⟩
                    refine Stpx.eff rfl rfl (Eff.yld (Yld.cat rfl rfl (by first | (simp only [List.length_append, List.length_cons, List.length_nil]; omega) | omega)) rfl rfl) ?_
                    refine ANx.take 12 rfl (by kernel_rfl) (by kernel_rfl) (by kernel_rfl) rfl rfl rfl (YldA.assign rfl) ?_
                    exact ANx.doneC () (by kernel_rfl) ⟨rfl, trivial⟩ trivial ⟨rfl, rfl, rfl, rfl, rfl, trivial⟩ ⟨rfl, rfl, rfl, trivial⟩
                  · -- 10
                    refine Stpx.effX rfl rfl (EffX.callW [0] [0] [0] rfl rfl Tryd.call53 rfl (impl_Decimal_c (by omega) (by omega)) (.own rfl) rfl (fun _ => rfl) ⟨rfl, trivial⟩ rfl (fun _ => rfl) (fun _ => rfl)) ?_
                    rintro _ ⟨⟨⟩, hu16, rfl⟩
                    refine ANx.all (rs := [7]) (by kernel_rfl) rfl ⟨?_, trivial⟩
                    refine Stpx.eff rfl rfl (Eff.yld (Yld.cat rfl rfl (by first | (simp only [List.length_append, List.length_cons, List.length_nil]; omega) | omega)) rfl rfl) ?_
                    refine ANx.all (rs := [11]) (by kernel_rfl) rfl ⟨?_, trivial⟩
                    refine Stpx.eff rfl rfl (Eff.yld (Yld.cat rfl rfl (by first | (simp only [List.length_append, List.length_cons, List.length_nil]; omega) | omega)) rfl rfl) ?_
                    refine ANx.take 12 rfl (by kernel_rfl) (by kernel_rfl) (by kernel_rfl) rfl rfl rfl (YldA.assign rfl) ?_
                    exact ANx.doneC () (by kernel_rfl) ⟨rfl, trivial⟩ trivial ⟨rfl, rfl, rfl, rfl, rfl, trivial⟩ ⟨rfl, rfl, rfl, trivial⟩
                · -- 10
                  refine Stpx.effX rfl rfl (EffX.callW [0] [0] [0] rfl rfl Tryd.call53 rfl (impl_Decimal_c (by omega) (by omega)) (.own rfl) rfl (fun _ => rfl) ⟨rfl, trivial⟩ rfl (fun _ => rfl) (fun _ => rfl)) ?_
                  rintro _ ⟨⟨⟩, hu16, rfl⟩
                  refine ANx.all (rs := [6]) (by kernel_rfl) rfl ⟨?_, trivial⟩
                  refine Stpx.eff rfl rfl (Eff.yld (Yld.cat rfl rfl (by first | (simp only [List.length_append, List.length_cons, List.length_nil]; omega) | omega)) rfl rfl) ?_
                  refine ANx.all (rs := [7]) (by kernel_rfl) rfl ⟨?_, trivial⟩
                  refine Stpx.eff rfl rfl (Eff.yld (Yld.cat rfl rfl (by first | (simp only [List.length_append, List.length_cons, List.length_nil]; omega) | omega)) rfl rfl) ?_
                  refine ANx.all (rs := [11]) (by kernel_rfl) rfl ⟨?_, trivial⟩
                  refine Stpx.eff rfl rfl (Eff.yld (Yld.cat rfl rfl (by first | (simp only [List.length_append, List.length_cons, List.length_nil]; omega) | omega)) rfl rfl) ?_
                  refine ANx.take 12 rfl (by kernel_rfl) (by kernel_rfl) (by kernel_rfl) rfl rfl rfl (YldA.assign rfl) ?_
                  exact ANx.doneC () (by kernel_rfl) ⟨rfl, trivial⟩ trivial ⟨rfl, rfl, rfl, rfl, rfl, trivial⟩ ⟨rfl, rfl, rfl, trivial⟩
            · -- 9
              refine Stpx.eff rfl rfl (Eff.yld (Yld.load Tryd.isAgg2 rfl rfl) rfl rfl) ?_
              refine ANx.all (rs := [2, 10]) (by kernel_rfl) rfl ⟨?_, ?_, trivial⟩
              · -- 2
                refine Stpx.eff rfl rfl (Eff.yld (Yld.cat rfl rfl (by first | (simp only [List.length_append, List.length_cons, List.length_nil]; omega) | omega)) rfl rfl) ?_
                refine ANx.all (rs := [6, 10]) (by kernel_rfl) rfl ⟨?_, ?_, trivial⟩
                · -- 6
                  refine Stpx.eff rfl rfl (Eff.yld (Yld.cat rfl rfl (by first | (simp only [List.length_append, List.length_cons, List.length_nil]; omega) | omega)) rfl rfl) ?_
                  refine ANx.all (rs := [7, 10]) (by kernel_rfl) rfl ⟨?_, ?_, trivial⟩
                  · -- 7
                    refine Stpx.eff rfl rfl (Eff.yld (Yld.cat rfl rfl (by first | (simp only [List.length_append, List.length_cons, List.length_nil]; omega) | omega)) rfl rfl) ?_
                    refine ANx.all (rs := [10]) (by kernel_rfl) rfl ⟨?_, trivial⟩
                    refine Stpx.effX rfl rfl (EffX.callW [0] [0] [0] rfl rfl Tryd.call53 rfl (impl_Decimal_c (by omega) (by omega)) (.own rfl) rfl (fun _ => rfl) ⟨rfl, trivial⟩ rfl (fun _ => rfl) (fun _ => rfl)) ?_
                    rintro _ ⟨⟨⟩, hu16, rfl⟩
                    refine ANx.all (rs := [11]) (by kernel_rfl) rfl ⟨?_, trivial⟩
                    refine Stpx.eff rfl rfl (Eff.yld (Yld.cat rfl rfl (by first | (simp only [List.length_append, List.length_cons, List.length_nil]; omega) | omega)) rfl rfl) ?_
                    refine ANx.take 12 rfl (by kernel_rfl) (by kernel_rfl) (by kernel_rfl) rfl rfl rfl (YldA.assign rfl) ?_
                    exact ANx.doneC () (by kernel_rfl) ⟨rfl, trivial⟩ trivial ⟨rfl, rfl, rfl, rfl, rfl, trivial⟩ ⟨rfl, rfl, rfl, trivial⟩
                  · -- 10
                    refine Stpx.effX rfl rfl (EffX.callW [0] [0] [0] rfl rfl Tryd.call53 rfl (impl_Decimal_c (by omega) (by omega)) (.own rfl) rfl (fun _ => rfl) ⟨rfl, trivial⟩ rfl (fun _ => rfl) (fun _ => rfl)) ?_
                    rintro _ ⟨⟨⟩, hu16, rfl⟩
                    refine ANx.all (rs := [7]) (by kernel_rfl) rfl ⟨?_, trivial⟩
                    refine Stpx.eff rfl rfl (Eff.yld (Yld.cat rfl rfl (by first | (simp only [List.length_append, List.length_cons, List.length_nil]; omega) | omega)) rfl rfl) ?_
                    refine ANx.all (rs := [11]) (by kernel_rfl) rfl ⟨?_, trivial⟩
                    refine Stpx.eff rfl rfl (Eff.yld (Yld.cat rfl rfl (by first | (simp only [List.length_append, List.length_cons, List.length_nil]; omega) | omega)) rfl rfl) ?_
                    refine ANx.take 12 rfl (by kernel_rfl) (by kernel_rfl) (by kernel_rfl) rfl rfl rfl (YldA.assign rfl) ?_
                    exact ANx.doneC () (by kernel_rfl) ⟨rfl, trivial⟩ trivial ⟨rfl, rfl, rfl, rfl, rfl, trivial⟩ ⟨rfl, rfl, rfl, trivial⟩
                · -- 10
                  refine Stpx.effX rfl rfl (EffX.callW [0] [0] [0] rfl rfl Tryd.call53 rfl (impl_Decimal_c (by omega) (by omega)) (.own rfl) rfl (fun _ => rfl) ⟨rfl, trivial⟩ rfl (fun _ => rfl) (fun _ => rfl)) ?_
                  rintro _ ⟨⟨⟩, hu16, rfl⟩
                  refine ANx.all (rs := [6]) (by kernel_rfl) rfl ⟨?_, trivial⟩
                  refine Stpx.eff rfl rfl (Eff.yld (Yld.cat rfl rfl (by first | (simp only [List.length_append, List.length_cons, List.length_nil]; omega) | omega)) rfl rfl) ?_
                  refine ANx.all (rs := [7]) (by kernel_rfl) rfl ⟨?_, trivial⟩
                  refine Stpx.eff rfl rfl (Eff.yld (Yld.cat rfl rfl (by first | (simp only [List.length_append, List.length_cons, List.length_nil]; omega) | omega)) rfl rfl) ?_
                  refine ANx.all (rs := [11]) (by kernel_rfl) rfl ⟨?_, trivial⟩
                  refine Stpx.eff rfl rfl (Eff.yld (Yld.cat rfl rfl (by first | (simp only [List.length_append, List.length_cons, List.length_nil]; omega) | omega)) rfl rfl) ?_
                  refine ANx.take 12 rfl (by kernel_rfl) (by kernel_rfl) (by kernel_rfl) rfl rfl rfl (YldA.assign rfl) ?_
                  exact ANx.doneC () (by kernel_rfl) ⟨rfl, trivial⟩ trivial ⟨rfl, rfl, rfl, rfl, rfl, trivial⟩ ⟨rfl, rfl, rfl, trivial⟩
              · -- 10
                refine Stpx.effX rfl rfl (EffX.callW [0] [0] [0] rfl rfl Tryd.call53 rfl (impl_Decimal_c (by omega) (by omega)) (.own rfl) rfl (fun _ => rfl) ⟨rfl, trivial⟩ rfl (fun _ => rfl) (fun _ => rfl)) ?_
                rintro _ ⟨⟨⟩, hu16, rfl⟩
                refine ANx.all (rs := [2]) (by kernel_rfl) rfl ⟨?_, trivial⟩
                refine Stpx.eff rfl rfl (Eff.yld (Yld.cat rfl rfl (by first | (simp only [List.length_append, List.length_cons, List.length_nil]; omega) | omega)) rfl rfl) ?_
                refine ANx.all (rs := [6]) (by kernel_rfl) rfl ⟨?_, trivial⟩
                refine Stpx.eff rfl rfl (Eff.yld (Yld.cat rfl rfl (by first | (simp only [List.length_append, List.length_cons, List.length_nil]; omega) | omega)) rfl rfl) ?_
                refine ANx.all (rs := [7]) (by kernel_rfl) rfl ⟨?_, trivial⟩
                refine Stpx.eff rfl rfl (Eff.yld (Yld.cat rfl rfl (by first | (simp only [List.length_append, List.length_cons, List.length_nil]; omega) | omega)) rfl rfl) ?_
                refine ANx.all (rs := [11]) (by kernel_rfl) rfl ⟨?_, trivial⟩
                refine Stpx.eff rfl rfl (Eff.yld (Yld.cat rfl rfl (by first | (simp only [List.length_append, List.length_cons, List.length_nil]; omega) | omega)) rfl rfl) ?_
                refine ANx.take 12 rfl (by kernel_rfl) (by kernel_rfl) (by kernel_rfl) rfl rfl rfl (YldA.assign rfl) ?_
                exact ANx.doneC () (by kernel_rfl) ⟨rfl, trivial⟩ trivial ⟨rfl, rfl, rfl, rfl, rfl, trivial⟩ ⟨rfl, rfl, rfl, trivial⟩
          · -- 9
            refine Stpx.eff rfl rfl (Eff.yld (Yld.load Tryd.isAgg2 rfl rfl) rfl rfl) ?_
            refine ANx.all (rs := [1, 10]) (by kernel_rfl) rfl ⟨?_, ?_, trivial⟩
            · -- 1
              refine Stpx.eff rfl rfl (Eff.yld (Yld.load Tryd.isAgg9 rfl rfl) rfl rfl) ?_
              refine ANx.all (rs := [2, 10]) (by kernel_rfl) rfl ⟨?_, ?_, trivial⟩
              · -- 2
                refine Stpx.eff rfl rfl (Eff.yld (Yld.cat rfl rfl (by first | (simp only [List.length_append, List.length_cons, List.length_nil]; omega) | omega)) rfl rfl) ?_
                refine ANx.all (rs := [6, 10]) (by kernel_rfl) rfl ⟨?_, ?_, trivial⟩
                · -- 6
                  refine Stpx.eff rfl rfl (Eff.yld (Yld.cat rfl rfl (by first | (simp only [List.length_append, List.length_cons, List.length_nil]; omega) | omega)) rfl rfl) ?_
                  refine ANx.all (rs := [7, 10]) (by kernel_rfl) rfl ⟨?_, ?_, trivial⟩
                  · -- 7
                    refine Stpx.eff rfl rfl (Eff.yld (Yld.cat rfl rfl (by first | (simp only [List.length_append, List.length_cons, List.length_nil]; omega) | omega)) rfl rfl) ?_
                    refine ANx.all (rs := [10]) (by kernel_rfl) rfl ⟨?_, trivial⟩
                    refine Stpx.effX rfl rfl (EffX.callW [0] [0] [0] rfl rfl Tryd.call53 rfl (impl_Decimal_c (by omega) (by omega)) (.own rfl) rfl (fun _ => rfl) ⟨rfl, trivial⟩ rfl (fun _ => rfl) (fun _ => rfl)) ?_
                    rintro _ ⟨⟨⟩, hu16, rfl⟩
                    refine ANx.all (rs := [11]) (by kernel_rfl) rfl ⟨?_, trivial⟩
                    refine Stpx.eff rfl rfl (Eff.yld (Yld.cat rfl rfl (by first | (simp only [List.length_append, List.length_cons, List.length_nil]; omega) | omega)) rfl rfl) ?_
                    refine ANx.take 12 rfl (by kernel_rfl) (by kernel_rfl) (by kernel_rfl) rfl rfl rfl (YldA.assign rfl) ?_
                    exact ANx.doneC () (by kernel_rfl) ⟨rfl, trivial⟩ trivial ⟨rfl, rfl, rfl, rfl, rfl, trivial⟩ ⟨rfl, rfl, rfl, trivial⟩
                  · -- 10
                    refine Stpx.effX rfl rfl (EffX.callW [0] [0] [0] rfl rfl Tryd.call53 rfl (impl_Decimal_c (by omega) (by omega)) (.own rfl) rfl (fun _ => rfl) ⟨rfl, trivial⟩ rfl (fun _ => rfl) (fun _ => rfl)) ?_
                    rintro _ ⟨⟨⟩, hu16, rfl⟩
                    refine ANx.all (rs := [7]) (by kernel_rfl) rfl ⟨?_, trivial⟩
                    refine Stpx.eff rfl rfl (Eff.yld (Yld.cat rfl rfl (by first | (simp only [List.length_append, List.length_cons, List.length_nil]; omega) | omega)) rfl rfl) ?_
                    refine ANx.all (rs := [11]) (by kernel_rfl) rfl ⟨?_, trivial⟩
                    refine Stpx.eff rfl rfl (Eff.yld (Yld.cat rfl rfl (by first | (simp only [List.length_append, List.length_cons, List.length_nil]; omega) | omega)) rfl rfl) ?_
                    refine ANx.take 12 rfl (by kernel_rfl) (by kernel_rfl) (by kernel_rfl) rfl rfl rfl (YldA.assign rfl) ?_
                    exact ANx.doneC () (by kernel_rfl) ⟨rfl, trivial⟩ trivial ⟨rfl, rfl, rfl, rfl, rfl, trivial⟩ ⟨rfl, rfl, rfl, trivial⟩
                · -- 10
                  refine Stpx.effX rfl rfl (EffX.callW [0] [0] [0] rfl rfl Tryd.call53 rfl (impl_Decimal_c (by omega) (by omega)) (.own rfl) rfl (fun _ => rfl) ⟨rfl, trivial⟩ rfl (fun _ => rfl) (fun _ => rfl)) ?_
                  rintro _ ⟨⟨⟩, hu16, rfl⟩
                  refine ANx.all (rs := [6]) (by kernel_rfl) rfl ⟨?_, trivial⟩
                  refine Stpx.eff rfl rfl (Eff.yld (Yld.cat rfl rfl (by first | (simp only [List.length_append, List.length_cons, List.length_nil]; omega) | omega)) rfl rfl) ?_
                  refine ANx.all (rs := [7]) (by kernel_rfl) rfl ⟨?_, trivial⟩
                  refine Stpx.eff rfl rfl (Eff.yld (Yld.cat rfl rfl (by first | (simp only [List.length_append, List.length_cons, List.length_nil]; omega) | omega)) rfl rfl) ?_
                  refine ANx.all (rs := [11]) (by kernel_rfl) rfl ⟨?_, trivial⟩
                  refine Stpx.eff rfl rfl (Eff.yld (Yld.cat rfl rfl (by first | (simp only [List.length_append, List.length_cons, List.length_nil]; omega) | omega)) rfl rfl) ?_
                  refine ANx.take 12 rfl (by kernel_rfl) (by kernel_rfl) (by kernel_rfl) rfl rfl rfl (YldA.assign rfl) ?_
                  exact ANx.doneC () (by kernel_rfl) ⟨rfl, trivial⟩ trivial ⟨rfl, rfl, rfl, rfl, rfl, trivial⟩ ⟨rfl, rfl, rfl, trivial⟩
              · -- 10
                refine Stpx.effX rfl rfl (EffX.callW [0] [0] [0] rfl rfl Tryd.call53 rfl (impl_Decimal_c (by omega) (by omega)) (.own rfl) rfl (fun _ => rfl) ⟨rfl, trivial⟩ rfl (fun _ => rfl) (fun _ => rfl)) ?_
                rintro _ ⟨⟨⟩, hu16, rfl⟩
                refine ANx.all (rs := [2]) (by kernel_rfl) rfl ⟨?_, trivial⟩
                refine Stpx.eff rfl rfl (Eff.yld (Yld.cat rfl rfl (by first | (simp only [List.length_append, List.length_cons, List.length_nil]; omega) | omega)) rfl rfl) ?_
                refine ANx.all (rs := [6]) (by kernel_rfl) rfl ⟨?_, trivial⟩
                refine Stpx.eff rfl rfl (Eff.yld (Yld.cat rfl rfl (by first | (simp only [List.length_append, List.length_cons, List.length_nil]; omega) | omega)) rfl rfl) ?_
                refine ANx.all (rs := [7]) (by kernel_rfl) rfl ⟨?_, trivial⟩
                refine Stpx.eff rfl rfl (Eff.yld (Yld.cat rfl rfl (by first | (simp only [List.length_append, List.length_cons, List.length_nil]; omega) | omega)) rfl rfl) ?_
                refine ANx.all (rs := [11]) (by kernel_rfl) rfl ⟨?_, trivial⟩
                refine Stpx.eff rfl rfl (Eff.yld (Yld.cat rfl rfl (by first | (simp only [List.length_append, List.length_cons, List.length_nil]; omega) | omega)) rfl rfl) ?_
                refine ANx.take 12 rfl (by kernel_rfl) (by kernel_rfl) (by kernel_rfl) rfl rfl rfl (YldA.assign rfl) ?_
                exact ANx.doneC () (by kernel_rfl) ⟨rfl, trivial⟩ trivial ⟨rfl, rfl, rfl, rfl, rfl, trivial⟩ ⟨rfl, rfl, rfl, trivial⟩
            · -- 10
              refine Stpx.effX rfl rfl (EffX.callW [0] [0] [0] rfl rfl Tryd.call53 rfl (impl_Decimal_c (by omega) (by omega)) (.own rfl) rfl (fun _ => rfl) ⟨rfl, trivial⟩ rfl (fun _ => rfl) (fun _ => rfl)) ?_
              rintro _ ⟨⟨⟩, hu16, rfl⟩
              refine ANx.all (rs := [1]) (by kernel_rfl) rfl ⟨?_, trivial⟩
              refine Stpx.eff rfl rfl (Eff.yld (Yld.load Tryd.isAgg9 rfl rfl) rfl rfl) ?_
              refine ANx.all (rs := [2]) (by kernel_rfl) rfl ⟨?_, trivial⟩
              refine Stpx.eff rfl rfl (Eff.yld (Yld.cat rfl rfl (by first | (simp only [List.length_append, List.length_cons, List.length_nil]; omega) | omega)) rfl rfl) ?_
              refine ANx.all (rs := [6]) (by kernel_rfl) rfl ⟨?_, trivial⟩
              refine Stpx.eff rfl rfl (Eff.yld (Yld.cat rfl rfl (by first | (simp only [List.length_append, List.length_cons, List.length_nil]; omega) | omega)) rfl rfl) ?_
              refine ANx.all (rs := [7]) (by kernel_rfl) rfl ⟨?_, trivial⟩
              refine Stpx.eff rfl rfl (Eff.yld (Yld.cat rfl rfl (by first | (simp only [List.length_append, List.length_cons, List.length_nil]; omega) | omega)) rfl rfl) ?_
              refine ANx.all (rs := [11]) (by kernel_rfl) rfl ⟨?_, trivial⟩
              refine Stpx.eff rfl rfl (Eff.yld (Yld.cat rfl rfl (by first | (simp only [List.length_append, List.length_cons, List.length_nil]; omega) | omega)) rfl rfl) ?_
              refine ANx.take 12 rfl (by kernel_rfl) (by kernel_rfl) (by kernel_rfl) rfl rfl rfl (YldA.assign rfl) ?_
              exact ANx.doneC () (by kernel_rfl) ⟨rfl, trivial⟩ trivial ⟨rfl, rfl, rfl, rfl, rfl, trivial⟩ ⟨rfl, rfl, rfl, trivial⟩
        · -- 9
          refine Stpx.eff rfl rfl (Eff.yld (Yld.load Tryd.isAgg2 rfl rfl) rfl rfl) ?_
          refine ANx.all (rs := [1, 5]) (by kernel_rfl) rfl ⟨?_, ?_, trivial⟩
          · -- 1
            refine Stpx.eff rfl rfl (Eff.yld (Yld.load Tryd.isAgg9 rfl rfl) rfl rfl) ?_
            refine ANx.all (rs := [2, 5]) (by kernel_rfl) rfl ⟨?_, ?_, trivial⟩
            · -- 2
              refine Stpx.eff rfl rfl (Eff.yld (Yld.cat rfl rfl (by first | (simp only [List.length_append, List.length_cons, List.length_nil]; omega) | omega)) rfl rfl) ?_
              refine ANx.all (rs := [5]) (by kernel_rfl) rfl ⟨?_, trivial⟩
              refine Stpx.effX rfl rfl (EffX.callW [0] [0] [0] rfl rfl Tryd.call53 rfl (impl_Decimal_c (by omega) (by omega)) (.own rfl) rfl (fun _ => rfl) ⟨rfl, trivial⟩ rfl (fun _ => rfl) (fun _ => rfl)) ?_
              rintro _ ⟨⟨⟩, hu11, rfl⟩
              refine ANx.all (rs := [6, 10]) (by kernel_rfl) rfl ⟨?_, ?_, trivial⟩
              · -- 6
                refine Stpx.eff rfl rfl (Eff.yld (Yld.cat rfl rfl (by first | (simp only [List.length_append, List.length_cons, List.length_nil]; omega) | omega)) rfl rfl) ?_
                refine ANx.all (rs := [7, 10]) (by kernel_rfl) rfl ⟨?_, ?_, trivial⟩
                · -- 7
                  refine Stpx.eff rfl rfl (Eff.yld (Yld.cat rfl rfl (by first | (simp only [List.length_append, List.length_cons, List.length_nil]; omega) | omega)) rfl rfl) ?_
                  refine ANx.all (rs := [10]) (by kernel_rfl) rfl ⟨?_, trivial⟩
                  refine Stpx.effX rfl rfl (EffX.callW [0] [0] [0] rfl rfl Tryd.call53 rfl (impl_Decimal_c (by omega) (by omega)) (.own rfl) rfl (fun _ => rfl) ⟨rfl, trivial⟩ rfl (fun _ => rfl) (fun _ => rfl)) ?_
                  rintro _ ⟨⟨⟩, hu16, rfl⟩
                  refine ANx.all (rs := [11]) (by kernel_rfl) rfl ⟨?_, trivial⟩
                  refine Stpx.eff rfl rfl (Eff.yld (Yld.cat rfl rfl (by first | (simp only [List.length_append, List.length_cons, List.length_nil]; omega) | omega)) rfl rfl) ?_
                  refine ANx.take 12 rfl (by kernel_rfl) (by kernel_rfl) (by kernel_rfl) rfl rfl rfl (YldA.assign rfl) ?_
                  exact ANx.doneC () (by kernel_rfl) ⟨rfl, trivial⟩ trivial ⟨rfl, rfl, rfl, rfl, rfl, trivial⟩ ⟨rfl, rfl, rfl, trivial⟩
                · -- 10
                  refine Stpx.effX rfl rfl (EffX.callW [0] [0] [0] rfl rfl Tryd.call53 rfl (impl_Decimal_c (by omega) (by omega)) (.own rfl) rfl (fun _ => rfl) ⟨rfl, trivial⟩ rfl (fun _ => rfl) (fun _ => rfl)) ?_
                  rintro _ ⟨⟨⟩, hu16, rfl⟩
                  refine ANx.all (rs := [7]) (by kernel_rfl) rfl ⟨?_, trivial⟩
                  refine Stpx.eff rfl rfl (Eff.yld (Yld.cat rfl rfl (by first | (simp only [List.length_append, List.length_cons, List.length_nil]; omega) | omega)) rfl rfl) ?_
                  refine ANx.all (rs := [11]) (by kernel_rfl) rfl ⟨?_, trivial⟩
                  refine Stpx.eff rfl rfl (Eff.yld (Yld.cat rfl rfl (by first | (simp only [List.length_append, List.length_cons, List.length_nil]; omega) | omega)) rfl rfl) ?_
                  refine ANx.take 12 rfl (by kernel_rfl) (by kernel_rfl) (by kernel_rfl) rfl rfl rfl (YldA.assign rfl) ?_
                  exact ANx.doneC () (by kernel_rfl) ⟨rfl, trivial⟩ trivial ⟨rfl, rfl, rfl, rfl, rfl, trivial⟩ ⟨rfl, rfl, rfl, trivial⟩
              · -- 10
                refine Stpx.effX rfl rfl (EffX.callW [0] [0] [0] rfl rfl Tryd.call53 rfl (impl_Decimal_c (by omega) (by omega)) (.own rfl) rfl (fun _ => rfl) ⟨rfl, trivial⟩ rfl (fun _ => rfl) (fun _ => rfl)) ?_
                rintro _ ⟨⟨⟩, hu16, rfl⟩
                refine ANx.all (rs := [6]) (by kernel_rfl) rfl ⟨?_, trivial⟩
                refine Stpx.eff rfl rfl (Eff.yld (Yld.cat rfl rfl (by first | (simp only [List.length_append, List.length_cons, List.length_nil]; omega) | omega)) rfl rfl) ?_
                refine ANx.all (rs := [7]) (by kernel_rfl) rfl ⟨?_, trivial⟩
                refine Stpx.eff rfl rfl (Eff.yld (Yld.cat rfl rfl (by first | (simp only [List.length_append, List.length_cons, List.length_nil]; omega) | omega)) rfl rfl) ?_
                refine ANx.all (rs := [11]) (by kernel_rfl) rfl ⟨?_, trivial⟩
                refine Stpx.eff rfl rfl (Eff.yld (Yld.cat rfl rfl (by first | (simp only [List.length_append, List.length_cons, List.length_nil]; omega) | omega)) rfl rfl) ?_
                refine ANx.take 12 rfl (by kernel_rfl) (by kernel_rfl) (by kernel_rfl) rfl rfl rfl (YldA.assign rfl) ?_
                exact ANx.doneC () (by kernel_rfl) ⟨rfl, trivial⟩ trivial ⟨rfl, rfl, rfl, rfl, rfl, trivial⟩ ⟨rfl, rfl, rfl, trivial⟩
            · -- 5
              refine Stpx.effX rfl rfl (EffX.callW [0] [0] [0] rfl rfl Tryd.call53 rfl (impl_Decimal_c (by omega) (by omega)) (.own rfl) rfl (fun _ => rfl) ⟨rfl, trivial⟩ rfl (fun _ => rfl) (fun _ => rfl)) ?_
              rintro _ ⟨⟨⟩, hu11, rfl⟩
              refine ANx.all (rs := [2, 10]) (by kernel_rfl) rfl ⟨?_, ?_, trivial⟩
              · -- 2
                refine Stpx.eff rfl rfl (Eff.yld (Yld.cat rfl rfl (by first | (simp only [List.length_append, List.length_cons, List.length_nil]; omega) | omega)) rfl rfl) ?_
                refine ANx.all (rs := [6, 10]) (by kernel_rfl) rfl ⟨?_, ?_, trivial⟩
                · -- 6
                  refine Stpx.eff rfl rfl (Eff.yld (Yld.cat rfl rfl (by first | (simp only [List.length_append, List.length_cons, List.length_nil]; omega) | omega)) rfl rfl) ?_
                  refine ANx.all (rs := [7, 10]) (by kernel_rfl) rfl ⟨?_, ?_, trivial⟩
                  · -- 7
                    refine Stpx.eff rfl rfl (Eff.yld (Yld.cat rfl rfl (by first | (simp only [List.length_append, List.length_cons, List.length_nil]; omega) | omega)) rfl rfl) ?_
                    refine ANx.all (rs := [10]) (by kernel_rfl) rfl ⟨?_, trivial⟩
                    refine Stpx.effX rfl rfl (EffX.callW [0] [0] [0] rfl rfl Tryd.call53 rfl (impl_Decimal_c (by omega) (by omega)) (.own rfl) rfl (fun _ => rfl) ⟨rfl, trivial⟩ rfl (fun _ => rfl) (fun _ => rfl)) ?_
                    rintro _ ⟨⟨⟩, hu16, rfl⟩
                    refine ANx.all (rs := [11]) (by kernel_rfl) rfl ⟨?_, trivial⟩
                    refine Stpx.eff rfl rfl (Eff.yld (Yld.cat rfl rfl (by first | (simp only [List.length_append, List.length_cons, List.length_nil]; omega) | omega)) rfl rfl) ?_
                    refine ANx.take 12 rfl (by kernel_rfl) (by kernel_rfl) (by kernel_rfl) rfl rfl rfl (YldA.assign rfl) ?_
                    exact ANx.doneC () (by kernel_rfl) ⟨rfl, trivial⟩ trivial ⟨rfl, rfl, rfl, rfl, rfl, trivial⟩ ⟨rfl, rfl, rfl, trivial⟩
                  · -- 10
                    refine Stpx.effX rfl rfl (EffX.callW [0] [0] [0] rfl rfl Tryd.call53 rfl (impl_Decimal_c (by omega) (by omega)) (.own rfl) rfl (fun _ => rfl) ⟨rfl, trivial⟩ rfl (fun _ => rfl) (fun _ => rfl)) ?_
                    rintro _ ⟨⟨⟩, hu16, rfl⟩
                    refine ANx.all (rs := [7]) (by kernel_rfl) rfl ⟨?_, trivial⟩
                    refine Stpx.eff rfl rfl (Eff.yld (Yld.cat rfl rfl (by first | (simp only [List.length_append, List.length_cons, List.length_nil]; omega) | omega)) rfl rfl) ?_
                    refine ANx.all (rs := [11]) (by kernel_rfl) rfl ⟨?_, trivial⟩
                    refine Stpx.eff rfl rfl (Eff.yld (Yld.cat rfl rfl (by first | (simp only [List.length_append, List.length_cons, List.length_nil]; omega) | omega)) rfl rfl) ?_
                    refine ANx.take 12 rfl (by kernel_rfl) (by kernel_rfl) (by kernel_rfl) rfl rfl rfl (YldA.assign rfl) ?_
                    exact ANx.doneC () (by kernel_rfl) ⟨rfl, trivial⟩ trivial ⟨rfl, rfl, rfl, rfl, rfl, trivial⟩ ⟨rfl, rfl, rfl, trivial⟩
                · -- 10
                  refine Stpx.effX rfl rfl (EffX.callW [0] [0] [0] rfl rfl Tryd.call53 rfl (impl_Decimal_c (by omega) (by omega)) (.own rfl) rfl (fun _ => rfl) ⟨rfl, trivial⟩ rfl (fun _ => rfl) (fun _ => rfl)) ?_
                  rintro _ ⟨⟨⟩, hu16, rfl⟩
                  refine ANx.all (rs := [6]) (by kernel_rfl) rfl ⟨?_, trivial⟩
                  refine Stpx.eff rfl rfl (Eff.yld (Yld.cat rfl rfl (by first | (simp only [List.length_append, List.length_cons, List.length_nil]; omega) | omega)) rfl rfl) ?_
                  refine ANx.all (rs := [7]) (by kernel_rfl) rfl ⟨?_, trivial⟩
                  refine Stpx.eff rfl rfl (Eff.yld (Yld.cat rfl rfl (by first | (simp only [List.length_append, List.length_cons, List.length_nil]; omega) | omega)) rfl rfl) ?_
                  refine ANx.all (rs := [11]) (by kernel_rfl) rfl ⟨?_, trivial⟩
                  refine Stpx.eff rfl rfl (Eff.yld (Yld.cat rfl rfl (by first | (simp only [List.length_append, List.length_cons, List.length_nil]; omega) | omega)) rfl rfl) ?_
                  refine ANx.take 12 rfl (by kernel_rfl) (by kernel_rfl) (by kernel_rfl) rfl rfl rfl (YldA.assign rfl) ?_
                  exact ANx.doneC () (by kernel_rfl) ⟨rfl, trivial⟩ trivial ⟨rfl, rfl, rfl, rfl, rfl, trivial⟩ ⟨rfl, rfl, rfl, trivial⟩
              · -- 10
                refine Stpx.effX rfl rfl (EffX.callW [0] [0] [0] rfl rfl Tryd.call53 rfl (impl_Decimal_c (by omega) (by omega)) (.own rfl) rfl (fun _ => rfl) ⟨rfl, trivial⟩ rfl (fun _ => rfl) (fun _ => rfl)) ?_
                rintro _ ⟨⟨⟩, hu16, rfl⟩
                refine ANx.all (rs := [2]) (by kernel_rfl) rfl ⟨?_, trivial⟩
                refine Stpx.eff rfl rfl (Eff.yld (Yld.cat rfl rfl (by first | (simp only [List.length_append, List.length_cons, List.length_nil]; omega) | omega)) rfl rfl) ?_
                refine ANx.all (rs := [6]) (by kernel_rfl) rfl ⟨?_, trivial⟩
                refine Stpx.eff rfl rfl (Eff.yld (Yld.cat rfl rfl (by first | (simp only [List.length_append, List.length_cons, List.length_nil]; omega) | omega)) rfl rfl) ?_
                refine ANx.all (rs := [7]) (by kernel_rfl) rfl ⟨?_, trivial⟩
                refine Stpx.eff rfl rfl (Eff.yld (Yld.cat rfl rfl (by first | (simp only [List.length_append, List.length_cons, List.length_nil]; omega) | omega)) rfl rfl) ?_
                refine ANx.all (rs := [11]) (by kernel_rfl) rfl ⟨?_, trivial⟩
                refine Stpx.eff rfl rfl (Eff.yld (Yld.cat rfl rfl (by first | (simp only [List.length_append, List.length_cons, List.length_nil]; omega) | omega)) rfl rfl) ?_
                refine ANx.take 12 rfl (by kernel_rfl) (by kernel_rfl) (by kernel_rfl) rfl rfl rfl (YldA.assign rfl) ?_
                exact ANx.doneC () (by kernel_rfl) ⟨rfl, trivial⟩ trivial ⟨rfl, rfl, rfl, rfl, rfl, trivial⟩ ⟨rfl, rfl, rfl, trivial⟩
          · -- 5
            refine Stpx.effX rfl rfl (EffX.callW [0] [0] [0] rfl rfl Tryd.call53 rfl (impl_Decimal_c (by omega) (by omega)) (.own rfl) rfl (fun _ => rfl) ⟨rfl, trivial⟩ rfl (fun _ => rfl) (fun _ => rfl)) ?_
            rintro _ ⟨⟨⟩, hu11, rfl⟩
            refine ANx.all (rs := [1, 10]) (by kernel_rfl) rfl ⟨?_, ?_, trivial⟩
            · -- 1
              refine Stpx.eff rfl rfl (Eff.yld (Yld.load Tryd.isAgg9 rfl rfl) rfl rfl) ?_
              refine ANx.all (rs := [2, 10]) (by kernel_rfl) rfl ⟨?_, ?_, trivial⟩
              · -- 2
                refine Stpx.eff rfl rfl (Eff.yld (Yld.cat rfl rfl (by first | (simp only [List.length_append, List.length_cons, List.length_nil]; omega) | omega)) rfl rfl) ?_
                refine ANx.all (rs := [6, 10]) (by kernel_rfl) rfl ⟨?_, ?_, trivial⟩
                · -- 6
                  refine Stpx.eff rfl rfl (Eff.yld (Yld.cat rfl rfl (by first | (simp only [List.length_append, List.length_cons, List.length_nil]; omega) | omega)) rfl rfl) ?_
                  refine ANx.all (rs := [7, 10]) (by kernel_rfl) rfl ⟨?_, ?_, trivial⟩
                  · -- 7
                    refine Stpx.eff rfl rfl (Eff.yld (Yld.cat rfl rfl (by first | (simp only [List.length_append, List.length_cons, List.length_nil]; omega) | omega)) rfl rfl) ?_
                    refine ANx.all (rs := [10]) (by kernel_rfl) rfl ⟨?_, trivial⟩
                    refine Stpx.effX rfl rfl (EffX.callW [0] [0] [0] rfl rfl Tryd.call53 rfl (impl_Decimal_c (by omega) (by omega)) (.own rfl) rfl (fun _ => rfl) ⟨rfl, trivial⟩ rfl (fun _ => rfl) (fun _ => rfl)) ?_
                    rintro _ ⟨⟨⟩, hu16, rfl⟩
                    refine ANx.all (rs := [11]) (by kernel_rfl) rfl ⟨?_, trivial⟩
                    refine Stpx.eff rfl rfl (Eff.yld (Yld.cat rfl rfl (by first | (simp only [List.length_append, List.length_cons, List.length_nil]; omega) | omega)) rfl rfl) ?_
                    refine ANx.take 12 rfl (by kernel_rfl) (by kernel_rfl) (by kernel_rfl) rfl rfl rfl (YldA.assign rfl) ?_
                    exact ANx.doneC () (by kernel_rfl) ⟨rfl, trivial⟩ trivial ⟨rfl, rfl, rfl, rfl, rfl, trivial⟩ ⟨rfl, rfl, rfl, trivial⟩
                  · -- 10
                    refine Stpx.effX rfl rfl (EffX.callW [0] [0] [0] rfl rfl Tryd.call53 rfl (impl_Decimal_c (by omega) (by omega)) (.own rfl) rfl (fun _ => rfl) ⟨rfl, trivial⟩ rfl (fun _ => rfl) (fun _ => rfl)) ?_
                    rintro _ ⟨⟨⟩, hu16, rfl⟩
                    refine ANx.all (rs := [7]) (by kernel_rfl) rfl ⟨?_, trivial⟩
                    refine Stpx.eff rfl rfl (Eff.yld (Yld.cat rfl rfl (by first | (simp only [List.length_append, List.length_cons, List.length_nil]; omega) | omega)) rfl rfl) ?_
                    refine ANx.all (rs := [11]) (by kernel_rfl) rfl ⟨?_, trivial⟩
                    refine Stpx.eff rfl rfl (Eff.yld (Yld.cat rfl rfl (by first | (simp only [List.length_append, List.length_cons, List.length_nil]; omega) | omega)) rfl rfl) ?_
                    refine ANx.take 12 rfl (by kernel_rfl) (by kernel_rfl) (by kernel_rfl) rfl rfl rfl (YldA.assign rfl) ?_
                    exact ANx.doneC () (by kernel_rfl) ⟨rfl, trivial⟩ trivial ⟨rfl, rfl, rfl, rfl, rfl, trivial⟩ ⟨rfl, rfl, rfl, trivial⟩
                · -- 10
                  refine Stpx.effX rfl rfl (EffX.callW [0] [0] [0] rfl rfl Tryd.call53 rfl (impl_Decimal_c (by omega) (by omega)) (.own rfl) rfl (fun _ => rfl) ⟨rfl, trivial⟩ rfl (fun _ => rfl) (fun _ => rfl)) ?_
                  rintro _ ⟨⟨⟩, hu16, rfl⟩
                  refine ANx.all (rs := [6]) (by kernel_rfl) rfl ⟨?_, trivial⟩
                  refine Stpx.eff rfl rfl (Eff.yld (Yld.cat rfl rfl (by first | (simp only [List.length_append, List.length_cons, List.length_nil]; omega) | omega)) rfl rfl) ?_
                  refine ANx.all (rs := [7]) (by kernel_rfl) rfl ⟨?_, trivial⟩
                  refine Stpx.eff rfl rfl (Eff.yld (Yld.cat rfl rfl (by first | (simp only [List.length_append, List.length_cons, List.length_nil]; omega) | omega)) rfl rfl) ?_
                  refine ANx.all (rs := [11]) (by kernel_rfl) rfl ⟨?_, trivial⟩
                  refine Stpx.eff rfl rfl (Eff.yld (Yld.cat rfl rfl (by first | (simp only [List.length_append, List.length_cons, List.length_nil]; omega) | omega)) rfl rfl) ?_
                  refine ANx.take 12 rfl (by kernel_rfl) (by kernel_rfl) (by kernel_rfl) rfl rfl rfl (YldA.assign rfl) ?_
                  exact ANx.doneC () (by kernel_rfl) ⟨rfl, trivial⟩ trivial ⟨rfl, rfl, rfl, rfl, rfl, trivial⟩ ⟨rfl, rfl, rfl, trivial⟩
              · -- 10
                refine Stpx.effX rfl rfl (EffX.callW [0] [0] [0] rfl rfl Tryd.call53 rfl (impl_Decimal_c (by omega) (by omega)) (.own rfl) rfl (fun _ => rfl) ⟨rfl, trivial⟩ rfl (fun _ => rfl) (fun _ => rfl)) ?_
                rintro _ ⟨⟨⟩, hu16, rfl⟩
                refine ANx.all (rs := [2]) (by kernel_rfl) rfl ⟨?_, trivial⟩
                refine Stpx.eff rfl rfl (Eff.yld (Yld.cat rfl rfl (by first | (simp only [List.length_append, List.length_cons, List.length_nil]; omega) | omega)) rfl rfl) ?_
                refine ANx.all (rs := [6]) (by kernel_rfl) rfl ⟨?_, trivial⟩
                refine Stpx.eff rfl rfl (Eff.yld (Yld.cat rfl rfl (by first | (simp only [List.length_append, List.length_cons, List.length_nil]; omega) | omega)) rfl rfl) ?_
                refine ANx.all (rs := [7]) (by kernel_rfl) rfl ⟨?_, trivial⟩
                refine Stpx.eff rfl rfl (Eff.yld (Yld.cat rfl rfl (by first | (simp only [List.length_append, List.length_cons, List.length_nil]; omega) | omega)) rfl rfl) ?_
                refine ANx.all (rs := [11]) (by kernel_rfl) rfl ⟨?_, trivial⟩
                refine Stpx.eff rfl rfl (Eff.yld (Yld.cat rfl rfl (by first | (simp only [List.length_append, List.length_cons, List.length_nil]; omega) | omega)) rfl rfl) ?_
                refine ANx.take 12 rfl (by kernel_rfl) (by kernel_rfl) (by kernel_rfl) rfl rfl rfl (YldA.assign rfl) ?_
                exact ANx.doneC () (by kernel_rfl) ⟨rfl, trivial⟩ trivial ⟨rfl, rfl, rfl, rfl, rfl, trivial⟩ ⟨rfl, rfl, rfl, trivial⟩
            · -- 10
              refine Stpx.effX rfl rfl (EffX.callW [0] [0] [0] rfl rfl Tryd.call53 rfl (impl_Decimal_c (by omega) (by omega)) (.own rfl) rfl (fun _ => rfl) ⟨rfl, trivial⟩ rfl (fun _ => rfl) (fun _ => rfl)) ?_
              rintro _ ⟨⟨⟩, hu16, rfl⟩
              refine ANx.all (rs := [1]) (by kernel_rfl) rfl ⟨?_, trivial⟩
              refine Stpx.eff rfl rfl (Eff.yld (Yld.load Tryd.isAgg9 rfl rfl) rfl rfl) ?_
              refine ANx.all (rs := [2]) (by kernel_rfl) rfl ⟨?_, trivial⟩
              refine Stpx.eff rfl rfl (Eff.yld (Yld.cat rfl rfl (by first | (simp only [List.length_append, List.length_cons, List.length_nil]; omega) | omega)) rfl rfl) ?_
              refine ANx.all (rs := [6]) (by kernel_rfl) rfl ⟨?_, trivial⟩
              refine Stpx.eff rfl rfl (Eff.yld (Yld.cat rfl rfl (by first | (simp only [List.length_append, List.length_cons, List.length_nil]; omega) | omega)) rfl rfl) ?_
              refine ANx.all (rs := [7]) (by kernel_rfl) rfl ⟨?_, trivial⟩
              refine Stpx.eff rfl rfl (Eff.yld (Yld.cat rfl rfl (by first | (simp only [List.length_append, List.length_cons, List.length_nil]; omega) | omega)) rfl rfl) ?_
              refine ANx.all (rs := [11]) (by kernel_rfl) rfl ⟨?_, trivial⟩
              refine Stpx.eff rfl rfl (Eff.yld (Yld.cat rfl rfl (by first | (simp only [List.length_append, List.length_cons, List.length_nil]; omega) | omega)) rfl rfl) ?_
              refine ANx.take 12 rfl (by kernel_rfl) (by kernel_rfl) (by kernel_rfl) rfl rfl rfl (YldA.assign rfl) ?_
              exact ANx.doneC () (by kernel_rfl) ⟨rfl, trivial⟩ trivial ⟨rfl, rfl, rfl, rfl, rfl, trivial⟩ ⟨rfl, rfl, rfl, trivial⟩
      · -- 9
        refine Stpx.eff rfl rfl (Eff.yld (Yld.load Tryd.isAgg2 rfl rfl) rfl rfl) ?_
        refine ANx.all (rs := [1, 4]) (by kernel_rfl) rfl ⟨?_, ?_, trivial⟩
        · -- 1
          refine Stpx.eff rfl rfl (Eff.yld (Yld.load Tryd.isAgg9 rfl rfl) rfl rfl) ?_
          refine ANx.all (rs := [2, 4]) (by kernel_rfl) rfl ⟨?_, ?_, trivial⟩
          · -- 2
            refine Stpx.eff rfl rfl (Eff.yld (Yld.cat rfl rfl (by first | (simp only [List.length_append, List.length_cons, List.length_nil]; omega) | omega)) rfl rfl) ?_
            refine ANx.all (rs := [4]) (by kernel_rfl) rfl ⟨?_, trivial⟩
            refine Stpx.eff rfl rfl (Eff.yld (Yld.load Tryd.isAgg2 rfl rfl) rfl rfl) ?_
            refine ANx.all (rs := [5]) (by kernel_rfl) rfl ⟨?_, trivial⟩
            refine Stpx.effX rfl rfl (EffX.callW [0] [0] [0] rfl rfl Tryd.call53 rfl (impl_Decimal_c (by omega) (by omega)) (.own rfl) rfl (fun _ => rfl) ⟨rfl, trivial⟩ rfl (fun _ => rfl) (fun _ => rfl)) ?_
            rintro _ ⟨⟨⟩, hu11, rfl⟩
            refine ANx.all (rs := [6, 10]) (by kernel_rfl) rfl ⟨?_, ?_, trivial⟩
            · -- 6
              refine Stpx.eff rfl rfl (Eff.yld (Yld.cat rfl rfl (by first | (simp only [List.length_append, List.length_cons, List.length_nil]; omega) | omega)) rfl rfl) ?_
              refine ANx.all (rs := [7, 10]) (by kernel_rfl) rfl ⟨?_, ?_, trivial⟩
              · -- 7
                refine Stpx.eff rfl rfl (Eff.yld (Yld.cat rfl rfl (by first | (simp only [List.length_append, List.length_cons, List.length_nil]; omega) | omega)) rfl rfl) ?_
                refine ANx.all (rs := [10]) (by kernel_rfl) rfl ⟨?_, trivial⟩
                refine Stpx.effX rfl rfl (EffX.callW [0] [0] [0] rfl rfl Tryd.call53 rfl (impl_Decimal_c (by omega) (by omega)) (.own rfl) rfl (fun _ => rfl) ⟨rfl, trivial⟩ rfl (fun _ => rfl) (fun _ => rfl)) ?_
                rintro _ ⟨⟨⟩, hu16, rfl⟩
                refine ANx.all (rs := [11]) (by kernel_rfl) rfl ⟨?_, trivial⟩
                refine Stpx.eff rfl rfl (Eff.yld (Yld.cat rfl rfl (by first | (simp only [List.length_append, List.length_cons, List.length_nil]; omega) | omega)) rfl rfl) ?_
                refine ANx.take 12 rfl (by kernel_rfl) (by kernel_rfl) (by kernel_rfl) rfl rfl rfl (YldA.assign rfl) ?_
                exact ANx.doneC () (by kernel_rfl) ⟨rfl, trivial⟩ trivial ⟨rfl, rfl, rfl, rfl, rfl, trivial⟩ ⟨rfl, rfl, rfl, trivial⟩
              · -- 10
                refine Stpx.effX rfl rfl (EffX.callW [0] [0] [0] rfl rfl Tryd.call53 rfl (impl_Decimal_c (by omega) (by omega)) (.own rfl) rfl (fun _ => rfl) ⟨rfl, trivial⟩ rfl (fun _ => rfl) (fun _ => rfl)) ?_
                rintro _ ⟨⟨⟩, hu16, rfl⟩
                refine ANx.all (rs := [7]) (by kernel_rfl) rfl ⟨?_, trivial⟩
                refine Stpx.eff rfl rfl (Eff.yld (Yld.cat rfl rfl (by first | (simp only [List.length_append, List.length_cons, List.length_nil]; omega) | omega)) rfl rfl) ?_
                refine ANx.all (rs := [11]) (by kernel_rfl) rfl ⟨?_, trivial⟩
                refine Stpx.eff rfl rfl (Eff.yld (Yld.cat rfl rfl (by first | (simp only [List.length_append, List.length_cons, List.length_nil]; omega) | omega)) rfl rfl) ?_
                refine ANx.take 12 rfl (by kernel_rfl) (by kernel_rfl) (by kernel_rfl) rfl rfl rfl (YldA.assign rfl) ?_
                exact ANx.doneC () (by kernel_rfl) ⟨rfl, trivial⟩ trivial ⟨rfl, rfl, rfl, rfl, rfl, trivial⟩ ⟨rfl, rfl, rfl, trivial⟩
            · -- 10
              refine Stpx.effX rfl rfl (EffX.callW [0] [0] [0] rfl rfl Tryd.call53 rfl (impl_Decimal_c (by omega) (by omega)) (.own rfl) rfl (fun _ => rfl) ⟨rfl, trivial⟩ rfl (fun _ => rfl) (fun _ => rfl)) ?_
              rintro _ ⟨⟨⟩, hu16, rfl⟩
              refine ANx.all (rs := [6]) (by kernel_rfl) rfl ⟨?_, trivial⟩
              refine Stpx.eff rfl rfl (Eff.yld (Yld.cat rfl rfl (by first | (simp only [List.length_append, List.length_cons, List.length_nil]; omega) | omega)) rfl rfl) ?_
              refine ANx.all (rs := [7]) (by kernel_rfl) rfl ⟨?_, trivial⟩
              refine Stpx.eff rfl rfl (Eff.yld (Yld.cat rfl rfl (by first | (simp only [List.length_append, List.length_cons, List.length_nil]; omega) | omega)) rfl rfl) ?_
              refine ANx.all (rs := [11]) (by kernel_rfl) rfl ⟨?_, trivial⟩
              refine Stpx.eff rfl rfl (Eff.yld (Yld.cat rfl rfl (by first | (simp only [List.length_append, List.length_cons, List.length_nil]; omega) | omega)) rfl rfl) ?_
              refine ANx.take 12 rfl (by kernel_rfl) (by kernel_rfl) (by kernel_rfl) rfl rfl rfl (YldA.assign rfl) ?_
              exact ANx.doneC () (by kernel_rfl) ⟨rfl, trivial⟩ trivial ⟨rfl, rfl, rfl, rfl, rfl, trivial⟩ ⟨rfl, rfl, rfl, trivial⟩
          · -- 4
            refine Stpx.eff rfl rfl (Eff.yld (Yld.load Tryd.isAgg2 rfl rfl) rfl rfl) ?_
            refine ANx.all (rs := [2, 5]) (by kernel_rfl) rfl ⟨?_, ?_, trivial⟩
            · -- 2
              refine Stpx.eff rfl rfl (Eff.yld (Yld.cat rfl rfl (by first | (simp only [List.length_append, List.length_cons, List.length_nil]; omega) | omega)) rfl rfl) ?_
              refine ANx.all (rs := [5]) (by kernel_rfl) rfl ⟨?_, trivial⟩
              refine Stpx.effX rfl rfl (EffX.callW [0] [0] [0] rfl rfl Tryd.call53 rfl (impl_Decimal_c (by omega) (by omega)) (.own rfl) rfl (fun _ => rfl) ⟨rfl, trivial⟩ rfl (fun _ => rfl) (fun _ => rfl)) ?_
              rintro _ ⟨⟨⟩, hu11, rfl⟩
              refine ANx.all (rs := [6, 10]) (by kernel_rfl) rfl ⟨?_, ?_, trivial⟩
              · -- 6
                refine Stpx.eff rfl rfl (Eff.yld (Yld.cat rfl rfl (by first | (simp only [List.length_append, List.length_cons, List.length_nil]; omega) | omega)) rfl rfl) ?_
                refine ANx.all (rs := [7, 10]) (by kernel_rfl) rfl ⟨?_, ?_, trivial⟩
                · -- 7
                  refine Stpx.eff rfl rfl (Eff.yld (Yld.cat rfl rfl (by first | (simp only [List.length_append, List.length_cons, List.length_nil]; omega) | omega)) rfl rfl) ?_
                  refine ANx.all (rs := [10]) (by kernel_rfl) rfl ⟨?_, trivial⟩
                  refine Stpx.effX rfl rfl (EffX.callW [0] [0] [0] rfl rfl Tryd.call53 rfl (impl_Decimal_c (by omega) (by omega)) (.own rfl) rfl (fun _ => rfl) ⟨rfl, trivial⟩ rfl (fun _ => rfl) (fun _ => rfl)) ?_
                  rintro _ ⟨⟨⟩, hu16, rfl⟩
                  refine ANx.all (rs := [11]) (by kernel_rfl) rfl ⟨?_, trivial⟩
                  refine Stpx.eff rfl rfl (Eff.yld (Yld.cat rfl rfl (by first | (simp only [List.length_append, List.length_cons, List.length_nil]; omega) | omega)) rfl rfl) ?_
                  refine ANx.take 12 rfl (by kernel_rfl) (by kernel_rfl) (by kernel_rfl) rfl rfl rfl (YldA.assign rfl) ?_
                  exact ANx.doneC () (by kernel_rfl) ⟨rfl, trivial⟩ trivial ⟨rfl, rfl, rfl, rfl, rfl, trivial⟩ ⟨rfl, rfl, rfl, trivial⟩
                · -- 10
                  refine Stpx.effX rfl rfl (EffX.callW [0] [0] [0] rfl rfl Tryd.call53 rfl (impl_Decimal_c (by omega) (by omega)) (.own rfl) rfl (fun _ => rfl) ⟨rfl, trivial⟩ rfl (fun _ => rfl) (fun _ => rfl)) ?_
                  rintro _ ⟨⟨⟩, hu16, rfl⟩
                  refine ANx.all (rs := [7]) (by kernel_rfl) rfl ⟨?_, trivial⟩
                  refine Stpx.eff rfl rfl (Eff.yld (Yld.cat rfl rfl (by first | (simp only [List.length_append, List.length_cons, List.length_nil]; omega) | omega)) rfl rfl) ?_
                  refine ANx.all (rs := [11]) (by kernel_rfl) rfl ⟨?_, trivial⟩
                  refine Stpx.eff rfl rfl (Eff.yld (Yld.cat rfl rfl (by first | (simp only [List.length_append, List.length_cons, List.length_nil]; omega) | omega)) rfl rfl) ?_
                  refine ANx.take 12 rfl (by kernel_rfl) (by kernel_rfl) (by kernel_rfl) rfl rfl rfl (YldA.assign rfl) ?_
                  exact ANx.doneC () (by kernel_rfl) ⟨rfl, trivial⟩ trivial ⟨rfl, rfl, rfl, rfl, rfl, trivial⟩ ⟨rfl, rfl, rfl, trivial⟩
              · -- 10
                refine Stpx.effX rfl rfl (EffX.callW [0] [0] [0] rfl rfl Tryd.call53 rfl (impl_Decimal_c (by omega) (by omega)) (.own rfl) rfl (fun _ => rfl) ⟨rfl, trivial⟩ rfl (fun _ => rfl) (fun _ => rfl)) ?_
                rintro _ ⟨⟨⟩, hu16, rfl⟩
                refine ANx.all (rs := [6]) (by kernel_rfl) rfl ⟨?_, trivial⟩
                refine Stpx.eff rfl rfl (Eff.yld (Yld.cat rfl rfl (by first | (simp only [List.length_append, List.length_cons, List.length_nil]; omega) | omega)) rfl rfl) ?_
                refine ANx.all (rs := [7]) (by kernel_rfl) rfl ⟨?_, trivial⟩
                refine Stpx.eff rfl rfl (Eff.yld (Yld.cat rfl rfl (by first | (simp only [List.length_append, List.length_cons, List.length_nil]; omega) | omega)) rfl rfl) ?_
                refine ANx.all (rs := [11]) (by kernel_rfl) rfl ⟨?_, trivial⟩
                refine Stpx.eff rfl rfl (Eff.yld (Yld.cat rfl rfl (by first | (simp only [List.length_append, List.length_cons, List.length_nil]; omega) | omega)) rfl rfl) ?_
                refine ANx.take 12 rfl (by kernel_rfl) (by kernel_rfl) (by kernel_rfl) rfl rfl rfl (YldA.assign rfl) ?_
                exact ANx.doneC () (by kernel_rfl) ⟨rfl, trivial⟩ trivial ⟨rfl, rfl, rfl, rfl, rfl, trivial⟩ ⟨rfl, rfl, rfl, trivial⟩
            · -- 5
              refine Stpx.effX rfl rfl (EffX.callW [0] [0] [0] rfl rfl Tryd.call53 rfl (impl_Decimal_c (by omega) (by omega)) (.own rfl) rfl (fun _ => rfl) ⟨rfl, trivial⟩ rfl (fun _ => rfl) (fun _ => rfl)) ?_
              rintro _ ⟨⟨⟩, hu11, rfl⟩
              refine ANx.all (rs := [2, 10]) (by kernel_rfl) rfl ⟨?_, ?_, trivial⟩
              · -- 2
                refine Stpx.eff rfl rfl (Eff.yld (Yld.cat rfl rfl (by first | (simp only [List.length_append, List.length_cons, List.length_nil]; omega) | omega)) rfl rfl) ?_
                refine ANx.all (rs := [6, 10]) (by kernel_rfl) rfl ⟨?_, ?_, trivial⟩
                · -- 6
                  refine Stpx.eff rfl rfl (Eff.yld (Yld.cat rfl rfl (by first | (simp only [List.length_append, List.length_cons, List.length_nil]; omega) | omega)) rfl rfl) ?_
                  refine ANx.all (rs := [7, 10]) (by kernel_rfl) rfl ⟨?_, ?_, trivial⟩
                  · -- 7
                    refine Stpx.eff rfl rfl (Eff.yld (Yld.cat rfl rfl (by first | (simp only [List.length_append, List.length_cons, List.length_nil]; omega) | omega)) rfl rfl) ?_
                    refine ANx.all (rs := [10]) (by kernel_rfl) rfl ⟨?_, trivial⟩
                    refine Stpx.effX rfl rfl (EffX.callW [0] [0] [0] rfl rfl Tryd.call53 rfl (impl_Decimal_c (by omega) (by omega)) (.own rfl) rfl (fun _ => rfl) ⟨rfl, trivial⟩ rfl (fun _ => rfl) (fun _ => rfl)) ?_
                    rintro _ ⟨⟨⟩, hu16, rfl⟩
                    refine ANx.all (rs := [11]) (by kernel_rfl) rfl ⟨?_, trivial⟩
                    refine Stpx.eff rfl rfl (Eff.yld (Yld.cat rfl rfl (by first | (simp only [List.length_append, List.length_cons, List.length_nil]; omega) | omega)) rfl rfl) ?_
                    refine ANx.take 12 rfl (by kernel_rfl) (by kernel_rfl) (by kernel_rfl) rfl rfl rfl (YldA.assign rfl) ?_
                    exact ANx.doneC () (by kernel_rfl) ⟨rfl, trivial⟩ trivial ⟨rfl, rfl, rfl, rfl, rfl, trivial⟩ ⟨rfl, rfl, rfl, trivial⟩
                  · -- 10
                    refine Stpx.effX rfl rfl (EffX.callW [0] [0] [0] rfl rfl Tryd.call53 rfl (impl_Decimal_c (by omega) (by omega)) (.own rfl) rfl (fun _ => rfl) ⟨rfl, trivial⟩ rfl (fun _ => rfl) (fun _ => rfl)) ?_
                    rintro _ ⟨⟨⟩, hu16, rfl⟩
                    refine ANx.all (rs := [7]) (by kernel_rfl) rfl ⟨?_, trivial⟩
                    refine Stpx.eff rfl rfl (Eff.yld (Yld.cat rfl rfl (by first | (simp only [List.length_append, List.length_cons, List.length_nil]; omega) | omega)) rfl rfl) ?_
                    refine ANx.all (rs := [11]) (by kernel_rfl) rfl ⟨?_, trivial⟩
                    refine Stpx.eff rfl rfl (Eff.yld (Yld.cat rfl rfl (by first | (simp only [List.length_append, List.length_cons, List.length_nil]; omega) | omega)) rfl rfl) ?_
                    refine ANx.take 12 rfl (by kernel_rfl) (by kernel_rfl) (by kernel_rfl) rfl rfl rfl (YldA.assign rfl) ?_
                    exact ANx.doneC () (by kernel_rfl) ⟨rfl, trivial⟩ trivial ⟨rfl, rfl, rfl, rfl, rfl, trivial⟩ ⟨rfl, rfl, rfl, trivial⟩
                · -- 10
                  refine Stpx.effX rfl rfl (EffX.callW [0] [0] [0] rfl rfl Tryd.call53 rfl (impl_Decimal_c (by omega) (by omega)) (.own rfl) rfl (fun _ => rfl) ⟨rfl, trivial⟩ rfl (fun _ => rfl) (fun _ => rfl)) ?_
                  rintro _ ⟨⟨⟩, hu16, rfl⟩
                  refine ANx.all (rs := [6]) (by kernel_rfl) rfl ⟨?_, trivial⟩
                  refine Stpx.eff rfl rfl (Eff.yld (Yld.cat rfl rfl (by first | (simp only [List.length_append, List.length_cons, List.length_nil]; omega) | omega)) rfl rfl) ?_
                  refine ANx.all (rs := [7]) (by kernel_rfl) rfl ⟨?_, trivial⟩
                  refine Stpx.eff rfl rfl (Eff.yld (Yld.cat rfl rfl (by first | (simp only [List.length_append, List.length_cons, List.length_nil]; omega) | omega)) rfl rfl) ?_
                  refine ANx.all (rs := [11]) (by kernel_rfl) rfl ⟨?_, trivial⟩
                  refine Stpx.eff rfl rfl (Eff.yld (Yld.cat rfl rfl (by first | (simp only [List.length_append, List.length_cons, List.length_nil]; omega) | omega)) rfl rfl) ?_
                  refine ANx.take 12 rfl (by kernel_rfl) (by kernel_rfl) (by kernel_rfl) rfl rfl rfl (YldA.assign rfl) ?_
                  exact ANx.doneC () (by kernel_rfl) ⟨rfl, trivial⟩ trivial ⟨rfl, rfl, rfl, rfl, rfl, trivial⟩ ⟨rfl, rfl, rfl, trivial⟩
              · -- 10
                refine Stpx.effX rfl rfl (EffX.callW [0] [0] [0] rfl rfl Tryd.call53 rfl (impl_Decimal_c (by omega) (by omega)) (.own rfl) rfl (fun _ => rfl) ⟨rfl, trivial⟩ rfl (fun _ => rfl) (fun _ => rfl)) ?_
                rintro _ ⟨⟨⟩, hu16, rfl⟩
                refine ANx.all (rs := [2]) (by kernel_rfl) rfl ⟨?_, trivial⟩
                refine Stpx.eff rfl rfl (Eff.yld (Yld.cat rfl rfl (by first | (simp only [List.length_append, List.length_cons, List.length_nil]; omega) | omega)) rfl rfl) ?_
                refine ANx.all (rs := [6]) (by kernel_rfl) rfl ⟨?_, trivial⟩
                refine Stpx.eff rfl rfl (Eff.yld (Yld.cat rfl rfl (by first | (simp only [List.length_append, List.length_cons, List.length_nil]; omega) | omega)) rfl rfl) ?_
                refine ANx.all (rs := [7]) (by kernel_rfl) rfl ⟨?_, trivial⟩
                refine Stpx.eff rfl rfl (Eff.yld (Yld.cat rfl rfl (by first | (simp only [List.length_append, List.length_cons, List.length_nil]; omega) | omega)) rfl rfl) ?_
                refine ANx.all (rs := [11]) (by kernel_rfl) rfl ⟨?_, trivial⟩
                refine Stpx.eff rfl rfl (Eff.yld (Yld.cat rfl rfl (by first | (simp only [List.length_append, List.length_cons, List.length_nil]; omega) | omega)) rfl rfl) ?_
                refine ANx.take 12 rfl (by kernel_rfl) (by kernel_rfl) (by kernel_rfl) rfl rfl rfl (YldA.assign rfl) ?_
                exact ANx.doneC () (by kernel_rfl) ⟨rfl, trivial⟩ trivial ⟨rfl, rfl, rfl, rfl, rfl, trivial⟩ ⟨rfl, rfl, rfl, trivial⟩
        · -- 4
          refine Stpx.eff rfl rfl (Eff.yld (Yld.load Tryd.isAgg2 rfl rfl) rfl rfl) ?_
          refine ANx.all (rs := [1, 5]) (by kernel_rfl) rfl ⟨?_, ?_, trivial⟩
          · -- 1
            refine Stpx.eff rfl rfl (Eff.yld (Yld.load Tryd.isAgg9 rfl rfl) rfl rfl) ?_
            refine ANx.all (rs := [2, 5]) (by kernel_rfl) rfl ⟨?_, ?_, trivial⟩
            · -- 2
              refine Stpx.eff rfl rfl (Eff.yld (Yld.cat rfl rfl (by first | (simp only [List.length_append, List.length_cons, List.length_nil]; omega) | omega)) rfl rfl) ?_
              refine ANx.all (rs := [5]) (by kernel_rfl) rfl ⟨?_, trivial⟩
              refine Stpx.effX rfl rfl (EffX.callW [0] [0] [0] rfl rfl Tryd.call53 rfl (impl_Decimal_c (by omega) (by omega)) (.own rfl) rfl (fun _ => rfl) ⟨rfl, trivial⟩ rfl (fun _ => rfl) (fun _ => rfl)) ?_
              rintro _ ⟨⟨⟩, hu11, rfl⟩
              refine ANx.all (rs := [6, 10]) (by kernel_rfl) rfl ⟨?_, ?_, trivial⟩
              · -- 6
                refine Stpx.eff rfl rfl (Eff.yld (Yld.cat rfl rfl (by first | (simp only [List.length_append, List.length_cons, List.length_nil]; omega) | omega)) rfl rfl) ?_
                refine ANx.all (rs := [7, 10]) (by kernel_rfl) rfl ⟨?_, ?_, trivial⟩
                · -- 7
                  refine Stpx.eff rfl rfl (Eff.yld (Yld.cat rfl rfl (by first | (simp only [List.length_append, List.length_cons, List.length_nil]; omega) | omega)) rfl rfl) ?_
                  refine ANx.all (rs := [10]) (by kernel_rfl) rfl ⟨?_, trivial⟩
                  refine Stpx.effX rfl rfl (EffX.callW [0] [0] [0] rfl rfl Tryd.call53 rfl (impl_Decimal_c (by omega) (by omega)) (.own rfl) rfl (fun _ => rfl) ⟨rfl, trivial⟩ rfl (fun _ => rfl) (fun _ => rfl)) ?_
                  rintro _ ⟨⟨⟩, hu16, rfl⟩
                  refine ANx.all (rs := [11]) (by kernel_rfl) rfl ⟨?_, trivial⟩
                  refine Stpx.eff rfl rfl (Eff.yld (Yld.cat rfl rfl (by first | (simp only [List.length_append, List.length_cons, List.length_nil]; omega) | omega)) rfl rfl) ?_
                  refine ANx.take 12 rfl (by kernel_rfl) (by kernel_rfl) (by kernel_rfl) rfl rfl rfl (YldA.assign rfl) ?_
                  exact ANx.doneC () (by kernel_rfl) ⟨rfl, trivial⟩ trivial ⟨rfl, rfl, rfl, rfl, rfl, trivial⟩ ⟨rfl, rfl, rfl, trivial⟩
                · -- 10
                  refine Stpx.effX rfl rfl (EffX.callW [0] [0] [0] rfl rfl Tryd.call53 rfl (impl_Decimal_c (by omega) (by omega)) (.own rfl) rfl (fun _ => rfl) ⟨rfl, trivial⟩ rfl (fun _ => rfl) (fun _ => rfl)) ?_
                  rintro _ ⟨⟨⟩, hu16, rfl⟩
                  refine ANx.all (rs := [7]) (by kernel_rfl) rfl ⟨?_, trivial⟩
                  refine Stpx.eff rfl rfl (Eff.yld (Yld.cat rfl rfl (by first | (simp only [List.length_append, List.length_cons, List.length_nil]; omega) | omega)) rfl rfl) ?_
                  refine ANx.all (rs := [11]) (by kernel_rfl) rfl ⟨?_, trivial⟩
                  refine Stpx.eff rfl rfl (Eff.yld (Yld.cat rfl rfl (by first | (simp only [List.length_append, List.length_cons, List.length_nil]; omega) | omega)) rfl rfl) ?_
                  refine ANx.take 12 rfl (by kernel_rfl) (by kernel_rfl) (by kernel_rfl) rfl rfl rfl (YldA.assign rfl) ?_
                  exact ANx.doneC () (by kernel_rfl) ⟨rfl, trivial⟩ trivial ⟨rfl, rfl, rfl, rfl, rfl, trivial⟩ ⟨rfl, rfl, rfl, trivial⟩
              · -- 10
                refine Stpx.effX rfl rfl (EffX.callW [0] [0] [0] rfl rfl Tryd.call53 rfl (impl_Decimal_c (by omega) (by omega)) (.own rfl) rfl (fun _ => rfl) ⟨rfl, trivial⟩ rfl (fun _ => rfl) (fun _ => rfl)) ?_
                rintro _ ⟨⟨⟩, hu16, rfl⟩
                refine ANx.all (rs := [6]) (by kernel_rfl) rfl ⟨?_, trivial⟩
                refine Stpx.eff rfl rfl (Eff.yld (Yld.cat rfl rfl (by first | (simp only [List.length_append, List.length_cons, List.length_nil]; omega) | omega)) rfl rfl) ?_
                refine ANx.all (rs := [7]) (by kernel_rfl) rfl ⟨?_, trivial⟩
                refine Stpx.eff rfl rfl (Eff.yld (Yld.cat rfl rfl (by first | (simp only [List.length_append, List.length_cons, List.length_nil]; omega) | omega)) rfl rfl) ?_
                refine ANx.all (rs := [11]) (by kernel_rfl) rfl ⟨?_, trivial⟩
                refine Stpx.eff rfl rfl (Eff.yld (Yld.cat rfl rfl (by first | (simp only [List.length_append, List.length_cons, List.length_nil]; omega) | omega)) rfl rfl) ?_
                refine ANx.take 12 rfl (by kernel_rfl) (by kernel_rfl) (by kernel_rfl) rfl rfl rfl (YldA.assign rfl) ?_
                exact ANx.doneC () (by kernel_rfl) ⟨rfl, trivial⟩ trivial ⟨rfl, rfl, rfl, rfl, rfl, trivial⟩ ⟨rfl, rfl, rfl, trivial⟩
            · -- 5
              refine Stpx.effX rfl rfl (EffX.callW [0] [0] [0] rfl rfl Tryd.call53 rfl (impl_Decimal_c (by omega) (by omega)) (.own rfl) rfl (fun _ => rfl) ⟨rfl, trivial⟩ rfl (fun _ => rfl) (fun _ => rfl)) ?_
              rintro _ ⟨⟨⟩, hu11, rfl⟩
              refine ANx.all (rs := [2, 10]) (by kernel_rfl) rfl ⟨?_, ?_, trivial⟩
              · -- 2
                refine Stpx.eff rfl rfl (Eff.yld (Yld.cat rfl rfl (by first | (simp only [List.length_append, List.length_cons, List.length_nil]; omega) | omega)) rfl rfl) ?_
                refine ANx.all (rs := [6, 10]) (by kernel_rfl) rfl ⟨?_, ?_, trivial⟩
                · -- 6
                  refine Stpx.eff rfl rfl (Eff.yld (Yld.cat rfl rfl (by first | (simp only [List.length_append, List.length_cons, List.length_nil]; omega) | omega)) rfl rfl) ?_
                  refine ANx.all (rs := [7, 10]) (by kernel_rfl) rfl ⟨?_, ?_, trivial⟩
                  · -- 7
                    refine Stpx.eff rfl rfl (Eff.yld (Yld.cat rfl rfl (by first | (simp only [List.length_append, List.length_cons, List.length_nil]; omega) | omega)) rfl rfl) ?_
                    refine ANx.all (rs := [10]) (by kernel_rfl) rfl ⟨?_, trivial⟩
                    refine Stpx.effX rfl rfl (EffX.callW [0] [0] [0] rfl rfl Tryd.call53 rfl (impl_Decimal_c (by omega) (by omega)) (.own rfl) rfl (fun _ => rfl) ⟨rfl, trivial⟩ rfl (fun _ => rfl) (fun _ => rfl)) ?_
                    rintro _ ⟨⟨⟩, hu16, rfl⟩
                    refine ANx.all (rs := [11]) (by kernel_rfl) rfl ⟨?_, trivial⟩
                    refine Stpx.eff rfl rfl (Eff.yld (Yld.cat rfl rfl (by first | (simp only [List.length_append, List.length_cons, List.length_nil]; omega) | omega)) rfl rfl) ?_
                    refine ANx.take 12 rfl (by kernel_rfl) (by kernel_rfl) (by kernel_rfl) rfl rfl rfl (YldA.assign rfl) ?_
                    exact ANx.doneC () (by kernel_rfl) ⟨rfl, trivial⟩ trivial ⟨rfl, rfl, rfl, rfl, rfl, trivial⟩ ⟨rfl, rfl, rfl, trivial⟩
                  · -- 10
                    refine Stpx.effX rfl rfl (EffX.callW [0] [0] [0] rfl rfl Tryd.call53 rfl (impl_Decimal_c (by omega) (by omega)) (.own rfl) rfl (fun _ => rfl) ⟨rfl, trivial⟩ rfl (fun _ => rfl) (fun _ => rfl)) ?_
                    rintro _ ⟨⟨⟩, hu16, rfl⟩
                    refine ANx.all (rs := [7]) (by kernel_rfl) rfl ⟨?_, trivial⟩
                    refine Stpx.eff rfl rfl (Eff.yld (Yld.cat rfl rfl (by first | (simp only [List.length_append, List.length_cons, List.length_nil]; omega) | omega)) rfl rfl) ?_
                    refine ANx.all (rs := [11]) (by kernel_rfl) rfl ⟨?_, trivial⟩
                    refine Stpx.eff rfl rfl (Eff.yld (Yld.cat rfl rfl (by first | (simp only [List.length_append, List.length_cons, List.length_nil]; omega) | omega)) rfl rfl) ?_
                    refine ANx.take 12 rfl (by kernel_rfl) (by kernel_rfl) (by kernel_rfl) rfl rfl rfl (YldA.assign rfl) ?_
                    exact ANx.doneC () (by kernel_rfl) ⟨rfl, trivial⟩ trivial ⟨rfl, rfl, rfl, rfl, rfl, trivial⟩ ⟨rfl, rfl, rfl, trivial⟩
                · -- 10
                  refine Stpx.effX rfl rfl (EffX.callW [0] [0] [0] rfl rfl Tryd.call53 rfl (impl_Decimal_c (by omega) (by omega)) (.own rfl) rfl (fun _ => rfl) ⟨rfl, trivial⟩ rfl (fun _ => rfl) (fun _ => rfl)) ?_
                  rintro _ ⟨⟨⟩, hu16, rfl⟩
                  refine ANx.all (rs := [6]) (by kernel_rfl) rfl ⟨?_, trivial⟩
                  refine Stpx.eff rfl rfl (Eff.yld (Yld.cat rfl rfl (by first | (simp only [List.length_append, List.length_cons, List.length_nil]; omega) | omega)) rfl rfl) ?_
                  refine ANx.all (rs := [7]) (by kernel_rfl) rfl ⟨?_, trivial⟩
                  refine Stpx.eff rfl rfl (Eff.yld (Yld.cat rfl rfl (by first | (simp only [List.length_append, List.length_cons, List.length_nil]; omega) | omega)) rfl rfl) ?_
                  refine ANx.all (rs := [11]) (by kernel_rfl) rfl ⟨?_, trivial⟩
                  refine Stpx.eff rfl rfl (Eff.yld (Yld.cat rfl rfl (by first | (simp only [List.length_append, List.length_cons, List.length_nil]; omega) | omega)) rfl rfl) ?_
                  refine ANx.take 12 rfl (by kernel_rfl) (by kernel_rfl) (by kernel_rfl) rfl rfl rfl (YldA.assign rfl) ?_
                  exact ANx.doneC () (by kernel_rfl) ⟨rfl, trivial⟩ trivial ⟨rfl, rfl, rfl, rfl, rfl, trivial⟩ ⟨rfl, rfl, rfl, trivial⟩
              · -- 10
                refine Stpx.effX rfl rfl (EffX.callW [0] [0] [0] rfl rfl Tryd.call53 rfl (impl_Decimal_c (by omega) (by omega)) (.own rfl) rfl (fun _ => rfl) ⟨rfl, trivial⟩ rfl (fun _ => rfl) (fun _ => rfl)) ?_
                rintro _ ⟨⟨⟩, hu16, rfl⟩
                refine ANx.all (rs := [2]) (by kernel_rfl) rfl ⟨?_, trivial⟩
                refine Stpx.eff rfl rfl (Eff.yld (Yld.cat rfl rfl (by first | (simp only [List.length_append, List.length_cons, List.length_nil]; omega) | omega)) rfl rfl) ?_
                refine ANx.all (rs := [6]) (by kernel_rfl) rfl ⟨?_, trivial⟩
                refine Stpx.eff rfl rfl (Eff.yld (Yld.cat rfl rfl (by first | (simp only [List.length_append, List.length_cons, List.length_nil]; omega) | omega)) rfl rfl) ?_
                refine ANx.all (rs := [7]) (by kernel_rfl) rfl ⟨?_, trivial⟩
                refine Stpx.eff rfl rfl (Eff.yld (Yld.cat rfl rfl (by first | (simp only [List.length_append, List.length_cons, List.length_nil]; omega) | omega)) rfl rfl) ?_
                refine ANx.all (rs := [11]) (by kernel_rfl) rfl ⟨?_, trivial⟩
                refine Stpx.eff rfl rfl (Eff.yld (Yld.cat rfl rfl (by first | (simp only [List.length_append, List.length_cons, List.length_nil]; omega) | omega)) rfl rfl) ?_
                refine ANx.take 12 rfl (by kernel_rfl) (by kernel_rfl) (by kernel_rfl) rfl rfl rfl (YldA.assign rfl) ?_
                exact ANx.doneC () (by kernel_rfl) ⟨rfl, trivial⟩ trivial ⟨rfl, rfl, rfl, rfl, rfl, trivial⟩ ⟨rfl, rfl, rfl, trivial⟩
          · -- 5
            refine Stpx.effX rfl rfl (EffX.callW [0] [0] [0] rfl rfl Tryd.call53 rfl (impl_Decimal_c (by omega) (by omega)) (.own rfl) rfl (fun _ => rfl) ⟨rfl, trivial⟩ rfl (fun _ => rfl) (fun _ => rfl)) ?_
            rintro _ ⟨⟨⟩, hu11, rfl⟩
            refine ANx.all (rs := [1, 10]) (by kernel_rfl) rfl ⟨?_, ?_, trivial⟩
            · -- 1
              refine Stpx.eff rfl rfl (Eff.yld (Yld.load Tryd.isAgg9 rfl rfl) rfl rfl) ?_
              refine ANx.all (rs := [2, 10]) (by kernel_rfl) rfl ⟨?_, ?_, trivial⟩
              · -- 2
                refine Stpx.eff rfl rfl (Eff.yld (Yld.cat rfl rfl (by first | (simp only [List.length_append, List.length_cons, List.length_nil]; omega) | omega)) rfl rfl) ?_
                refine ANx.all (rs := [6, 10]) (by kernel_rfl) rfl ⟨?_, ?_, trivial⟩
                · -- 6
                  refine Stpx.eff rfl rfl (Eff.yld (Yld.cat rfl rfl (by first | (simp only [List.length_append, List.length_cons, List.length_nil]; omega) | omega)) rfl rfl) ?_
                  refine ANx.all (rs := [7, 10]) (by kernel_rfl) rfl ⟨?_, ?_, trivial⟩
                  · -- 7
                    refine Stpx.eff rfl rfl (Eff.yld (Yld.cat rfl rfl (by first | (simp only [List.length_append, List.length_cons, List.length_nil]; omega) | omega)) rfl rfl) ?_
                    refine ANx.all (rs := [10]) (by kernel_rfl) rfl ⟨?_, trivial⟩
                    refine Stpx.effX rfl rfl (EffX.callW [0] [0] [0] rfl rfl Tryd.call53 rfl (impl_Decimal_c (by omega) (by omega)) (.own rfl) rfl (fun _ => rfl) ⟨rfl, trivial⟩ rfl (fun _ => rfl) (fun _ => rfl)) ?_
                    rintro _ ⟨⟨⟩, hu16, rfl⟩
                    refine ANx.all (rs := [11]) (by kernel_rfl) rfl ⟨?_, trivial⟩
                    refine Stpx.eff rfl rfl (Eff.yld (Yld.cat rfl rfl (by first | (simp only [List.length_append, List.length_cons, List.length_nil]; omega) | omega)) rfl rfl) ?_
                    refine ANx.take 12 rfl (by kernel_rfl) (by kernel_rfl) (by kernel_rfl) rfl rfl rfl (YldA.assign rfl) ?_
                    exact ANx.doneC () (by kernel_rfl) ⟨rfl, trivial⟩ trivial ⟨rfl, rfl, rfl, rfl, rfl, trivial⟩ ⟨rfl, rfl, rfl, trivial⟩
                  · -- 10
                    refine Stpx.effX rfl rfl (EffX.callW [0] [0] [0] rfl rfl Tryd.call53 rfl (impl_Decimal_c (by omega) (by omega)) (.own rfl) rfl (fun _ => rfl) ⟨rfl, trivial⟩ rfl (fun _ => rfl) (fun _ => rfl)) ?_
                    rintro _ ⟨⟨⟩, hu16, rfl⟩
                    refine ANx.all (rs := [7]) (by kernel_rfl) rfl ⟨?_, trivial⟩
                    refine Stpx.eff rfl rfl (Eff.yld (Yld.cat rfl rfl (by first | (simp only [List.length_append, List.length_cons, List.length_nil]; omega) | omega)) rfl rfl) ?_
                    refine ANx.all (rs := [11]) (by kernel_rfl) rfl ⟨?_, trivial⟩
                    refine Stpx.eff rfl rfl (Eff.yld (Yld.cat rfl rfl (by first | (simp only [List.length_append, List.length_cons, List.length_nil]; omega) | omega)) rfl rfl) ?_
                    refine ANx.take 12 rfl (by kernel_rfl) (by kernel_rfl) (by kernel_rfl) rfl rfl rfl (YldA.assign rfl) ?_
                    exact ANx.doneC () (by kernel_rfl) ⟨rfl, trivial⟩ trivial ⟨rfl, rfl, rfl, rfl, rfl, trivial⟩ ⟨rfl, rfl, rfl, trivial⟩
                · -- 10
                  refine Stpx.effX rfl rfl (EffX.callW [0] [0] [0] rfl rfl Tryd.call53 rfl (impl_Decimal_c (by omega) (by omega)) (.own rfl) rfl (fun _ => rfl) ⟨rfl, trivial⟩ rfl (fun _ => rfl) (fun _ => rfl)) ?_
                  rintro _ ⟨⟨⟩, hu16, rfl⟩
                  refine ANx.all (rs := [6]) (by kernel_rfl) rfl ⟨?_, trivial⟩
                  refine Stpx.eff rfl rfl (Eff.yld (Yld.cat rfl rfl (by first | (simp only [List.length_append, List.length_cons, List.length_nil]; omega) | omega)) rfl rfl) ?_
                  refine ANx.all (rs := [7]) (by kernel_rfl) rfl ⟨?_, trivial⟩
                  refine Stpx.eff rfl rfl (Eff.yld (Yld.cat rfl rfl (by first | (simp only [List.length_append, List.length_cons, List.length_nil]; omega) | omega)) rfl rfl) ?_
                  refine ANx.all (rs := [11]) (by kernel_rfl) rfl ⟨?_, trivial⟩
                  refine Stpx.eff rfl rfl (Eff.yld (Yld.cat rfl rfl (by first | (simp only [List.length_append, List.length_cons, List.length_nil]; omega) | omega)) rfl rfl) ?_
                  refine ANx.take 12 rfl (by kernel_rfl) (by kernel_rfl) (by kernel_rfl) rfl rfl rfl (YldA.assign rfl) ?_
                  exact ANx.doneC () (by kernel_rfl) ⟨rfl, trivial⟩ trivial ⟨rfl, rfl, rfl, rfl, rfl, trivial⟩ ⟨rfl, rfl, rfl, trivial⟩
              · -- 10
                refine Stpx.effX rfl rfl (EffX.callW [0] [0] [0] rfl rfl Tryd.call53 rfl (impl_Decimal_c (by omega) (by omega)) (.own rfl) rfl (fun _ => rfl) ⟨rfl, trivial⟩ rfl (fun _ => rfl) (fun _ => rfl)) ?_
                rintro _ ⟨⟨⟩, hu16, rfl⟩
                refine ANx.all (rs := [2]) (by kernel_rfl) rfl ⟨?_, trivial⟩
                refine Stpx.eff rfl rfl (Eff.yld (Yld.cat rfl rfl (by first | (simp only [List.length_append, List.length_cons, List.length_nil]; omega) | omega)) rfl rfl) ?_
                refine ANx.all (rs := [6]) (by kernel_rfl) rfl ⟨?_, trivial⟩
                refine Stpx.eff rfl rfl (Eff.yld (Yld.cat rfl rfl (by first | (simp only [List.length_append, List.length_cons, List.length_nil]; omega) | omega)) rfl rfl) ?_
                refine ANx.all (rs := [7]) (by kernel_rfl) rfl ⟨?_, trivial⟩
                refine Stpx.eff rfl rfl (Eff.yld (Yld.cat rfl rfl (by first | (simp only [List.length_append, List.length_cons, List.length_nil]; omega) | omega)) rfl rfl) ?_
                refine ANx.all (rs := [11]) (by kernel_rfl) rfl ⟨?_, trivial⟩
                refine Stpx.eff rfl rfl (Eff.yld (Yld.cat rfl rfl (by first | (simp only [List.length_append, List.length_cons, List.length_nil]; omega) | omega)) rfl rfl) ?_
                refine ANx.take 12 rfl (by kernel_rfl) (by kernel_rfl) (by kernel_rfl) rfl rfl rfl (YldA.assign rfl) ?_
                exact ANx.doneC () (by kernel_rfl) ⟨rfl, trivial⟩ trivial ⟨rfl, rfl, rfl, rfl, rfl, trivial⟩ ⟨rfl, rfl, rfl, trivial⟩
            · -- 10
              refine Stpx.effX rfl rfl (EffX.callW [0] [0] [0] rfl rfl Tryd.call53 rfl (impl_Decimal_c (by omega) (by omega)) (.own rfl) rfl (fun _ => rfl) ⟨rfl, trivial⟩ rfl (fun _ => rfl) (fun _ => rfl)) ?_
              rintro _ ⟨⟨⟩, hu16, rfl⟩
              refine ANx.all (rs := [1]) (by kernel_rfl) rfl ⟨?_, trivial⟩
              refine Stpx.eff rfl rfl (Eff.yld (Yld.load Tryd.isAgg9 rfl rfl) rfl rfl) ?_
              refine ANx.all (rs := [2]) (by kernel_rfl) rfl ⟨?_, trivial⟩
              refine Stpx.eff rfl rfl (Eff.yld (Yld.cat rfl rfl (by first | (simp only [List.length_append, List.length_cons, List.length_nil]; omega) | omega)) rfl rfl) ?_
              refine ANx.all (rs := [6]) (by kernel_rfl) rfl ⟨?_, trivial⟩
              refine Stpx.eff rfl rfl (Eff.yld (Yld.cat rfl rfl (by first | (simp only [List.length_append, List.length_cons, List.length_nil]; omega) | omega)) rfl rfl) ?_
              refine ANx.all (rs := [7]) (by kernel_rfl) rfl ⟨?_, trivial⟩
              refine Stpx.eff rfl rfl (Eff.yld (Yld.cat rfl rfl (by first | (simp only [List.length_append, List.length_cons, List.length_nil]; omega) | omega)) rfl rfl) ?_
              refine ANx.all (rs := [11]) (by kernel_rfl) rfl ⟨?_, trivial⟩
              refine Stpx.eff rfl rfl (Eff.yld (Yld.cat rfl rfl (by first | (simp only [List.length_append, List.length_cons, List.length_nil]; omega) | omega)) rfl rfl) ?_
              refine ANx.take 12 rfl (by kernel_rfl) (by kernel_rfl) (by kernel_rfl) rfl rfl rfl (YldA.assign rfl) ?_
              exact ANx.doneC () (by kernel_rfl) ⟨rfl, trivial⟩ trivial ⟨rfl, rfl, rfl, rfl, rfl, trivial⟩ ⟨rfl, rfl, rfl, trivial⟩
    · -- behind
      rintro y
      refine FnE.ret () [0] [0] Tryd.results32 (RVs.cons (RV.tmp rfl) RVs.nil) rfl rfl rfl ?_ ?_ ⟨⟨_, rfl, ?_⟩, trivial⟩
      · -- holds
        trivial
      · -- value
        first | (unfold machText; rw [if_pos hok]; first | done | rfl) | (unfold machText; rw [if_neg hno]; rfl)
      · -- thing 0
        first | rfl | exact vecE (by first | rfl | (simp_all; done) | grind) | (simp_all; done)

theorem impl_ReadMachine_c {s : List UInt8} (hs : s.length ≤ 1048576) :
    FnE (α := Unit) Tryd.prog 31 [.p (.v (str s))] [(0, powRE Tryd.prog)] [0] (fun _ => True) (fun _ => .tup [.agg ((encMach ((rd3 (fun a n m => okMachine ⟨a, n, m⟩) s).elim (⟨[], 0, 0⟩ : Mach) fun x => ⟨x.1, x.2.1, x.2.2⟩)).map .p), .p (.v (.bool (rd3 (fun a n m => okMachine ⟨a, n, m⟩) s).isSome))]) (fun _ => [(0, powRE Tryd.prog)]) := by
  refine FnE.intro Tryd.func31 rfl Tryd.ntmps31 rfl rfl (fun w0 F0 η φ w => ?_)
  refine AC.seq ?_
  refine AC.region ?_
  refine AO.alloc 1 Tryd.zeroValue58 rfl rfl rfl ?_
  refine AO.yld _ (Yld.assign rfl) rfl rfl rfl ?_
  refine AO.nil ?_
  refine AC.seq ?_
  refine AC.region ?_
  refine AO.yld _ (Yld.move rfl) rfl rfl rfl ?_
  refine AO.callW (wantedN rfl) [0] [0] [0] rfl rfl Tryd.call72 rfl (impl_SplitWords_c (by first | assumption | omega)) (.own rfl) rfl (fun _ => rfl) ⟨rfl, trivial⟩ rfl (fun _ => rfl) (fun _ => rfl) (fun _ _ => ?_)
  refine AO.yld _ (Yld.assign rfl) rfl rfl rfl ?_
  refine AO.nil ?_
  refine AC.seq ?_
  refine AC.seq ?_
  refine AC.region ?_
  refine AO.yld _ (Yld.move rfl) rfl rfl rfl ?_
  refine AO.yld _ (Yld.len Tryd.underlying106 rfl rfl) rfl rfl rfl ?_
  refine AO.yld _ (Yld.int rfl rfl rfl) rfl rfl rfl ?_
  refine AO.nil ?_
  refine AC.cond _ rfl (fun c12 => ?_) (fun c12 => ?_)
  · -- c12 True
    have hno : (rd3 (fun a n m => okMachine ⟨a, n, m⟩) s) = none := rdw_len mach_ok (by have h := c12; simp only [List.length_map, bne_iff_ne, ne_eq] at h; omega)
    refine AC.seq ?_
    refine AC.region ?_
    refine AO.yld _ (Yld.buildA (zs := [.v (str []), .v (.int .i64 0), .v (.int .i64 0)]) bld58 rfl rfl) rfl rfl rfl ?_
    refine AO.store Tryd.sizeOf58 rfl rfl rfl rfl rfl rfl ?_
    refine AO.yld _ (Yld.assign rfl) rfl rfl rfl ?_
    refine AO.nil ?_
    refine FnE.ret () [0] [0] Tryd.results31 (RVs.cons (RV.cell Tryd.isAgg58 Tryd.sizeOf58 rfl rfl rfl rfl) (RVs.cons (RV.tmp rfl) RVs.nil)) rfl rfl rfl ?_ ?_ ⟨⟨_, rfl, ?_⟩, trivial⟩
    · -- holds
      trivial
    · -- value
      first | (rw [hno]; rfl) | (rw [hye]; rfl)
    · -- thing 0
      first | rfl | exact vecE (by first | rfl | (simp_all; done) | grind) | (simp_all; done)
  · -- c12 False
    have hlen3 : (wordsOf (sps 32 s)).length = 3 := by have h := c12; simp only [List.length_map, bne_eq_false_iff_eq] at h; omega
    obtain ⟨a, b, c, hab⟩ : ∃ a b c, wordsOf (sps 32 s) = [a, b, c] := by match hq : wordsOf (sps 32 s), hlen3 with | [a, b, c], _ => exact ⟨a, b, c, rfl⟩
    have hal : a.length ≤ s.length := (sps_free 32 _ s (Nat.le_refl _) a (List.mem_filter.1 (show a ∈ wordsOf (sps 32 s) by rw [hab]; simp)).1).2
    rw [hab]
    have hrow0 : ([a, b, c].map Go.V.encS)[0]? = some (Go.V.encS a) := rfl
    refine AC.skip ?_
    refine AC.seq ?_
    refine AC.region ?_
    refine AO.yld _ (Yld.move rfl) rfl rfl rfl ?_
    refine AO.yld _ (Yld.sliceSl Tryd.underlying106 Tryd.sizeOf9 rfl (.some (n := 1) rfl (by omega)) .none (by show 1 ≤ 3; omega) (Nat.le_refl _)) rfl rfl rfl ?_
    refine AO.callW (wantedN rfl) [0] [0] [0] rfl rfl Tryd.call73 rfl (impl_readNumbers_c (ws := [b, c]) (by show 2 ≤ 1048576; omega)) (.own rfl) rfl (fun _ => rfl) ⟨rfl, trivial⟩ rfl (fun _ => rfl) (fun _ => rfl) (fun _ _ => ?_)
    refine AO.yld _ (Yld.move rfl) rfl rfl rfl ?_
    refine AO.yld _ (Yld.extract rfl rfl rfl) rfl rfl rfl ?_
    refine AO.yld _ (Yld.extract rfl rfl rfl) rfl rfl rfl ?_
    refine AO.yld _ (Yld.assign rfl) rfl rfl rfl ?_
    refine AO.yld _ (Yld.assign rfl) rfl rfl rfl ?_
    refine AO.nil ?_
    refine AC.seq ?_
    refine AC.seq ?_
    refine AC.region ?_
    refine AO.yld _ (Yld.move rfl) rfl rfl rfl ?_
    refine AO.yld _ (Yld.not rfl) rfl rfl rfl ?_
    refine AO.nil ?_
    refine AC.cond _ rfl (fun c21 => ?_) (fun c21 => ?_)
    · -- c21 True
      have hno : (rd3 (fun a n m => okMachine ⟨a, n, m⟩) s) = none := rdw_num mach_ok hab (allRead_two_not (by have h := c21; rw [Bool.not_eq_true'] at h; exact h))
      refine AC.seq ?_
      refine AC.region ?_
      refine AO.yld _ (Yld.buildA (zs := [.v (str []), .v (.int .i64 0), .v (.int .i64 0)]) bld58 rfl rfl) rfl rfl rfl ?_
      refine AO.store Tryd.sizeOf58 rfl rfl rfl rfl rfl rfl ?_
      refine AO.yld _ (Yld.assign rfl) rfl rfl rfl ?_
      refine AO.nil ?_
      refine FnE.ret () [0] [0] Tryd.results31 (RVs.cons (RV.cell Tryd.isAgg58 Tryd.sizeOf58 rfl rfl rfl rfl) (RVs.cons (RV.tmp rfl) RVs.nil)) rfl rfl rfl ?_ ?_ ⟨⟨_, rfl, ?_⟩, trivial⟩
      · -- holds
        trivial
      · -- value
        first | (rw [hno]; rfl) | (rw [hye]; rfl)
      · -- thing 0
        first | rfl | exact vecE (by first | rfl | (simp_all; done) | grind) | (simp_all; done)
    · -- c21 False
      have har : allRead [b, c] = true := by have h := c21; rw [Bool.not_eq_false'] at h; exact h
      obtain ⟨n, m, hnn, hnm⟩ := allRead_two har
      rw [show numsOk [b, c] = [n, m] by unfold numsOk; rw [if_pos har]; simp [numOf, hnn, hnm]]
      have hrowA : ([n, m].map Go.V.encI)[0]? = some (Go.V.encI n) := rfl
      have hrowB : ([n, m].map Go.V.encI)[1]? = some (Go.V.encI m) := rfl
      refine AC.skip ?_
      refine AC.seq ?_
      apply AC.drawAny ⟨[(0, _), (2, _), (3, _), (4, _), (5, _), (6, _), (7, _), (8, _), (9, _), (10, _), (11, _), (12, _), (14, _), (15, _), (16, _), (17, _), (18, _), (19, _), (20, _), (21, _), (23, _), (24, _), (25, _), (26, _), (27, _), (28, _), (29, _), (30, _), (31, _), (32, _)], [(0, _), (1, _), (2, _), (900, _)]⟩ (by kernel_rfl)
      · -- orders
        refine AN.take 0 rfl (by kernel_rfl) (by kernel_rfl) (by kernel_rfl) rfl rfl rfl (YldA.move rfl) ?_
        refine AN.take 1 rfl (by kernel_rfl) (by kernel_rfl) (by kernel_rfl) rfl rfl rfl (YldA.indexSl Tryd.underlying106 Tryd.sizeOf9 rfl rfl hrow0 rfl) ?_
        refine AN.take 3 rfl (by kernel_rfl) (by kernel_rfl) (by kernel_rfl) rfl rfl rfl (YldA.move rfl) ?_
        refine AN.take 4 rfl (by kernel_rfl) (by kernel_rfl) (by kernel_rfl) rfl rfl rfl (YldA.indexSl Tryd.underlying39 Tryd.sizeOf2 rfl rfl hrowA rfl) ?_
        refine AN.take 6 rfl (by kernel_rfl) (by kernel_rfl) (by kernel_rfl) rfl rfl rfl (YldA.move rfl) ?_
        refine AN.take 7 rfl (by kernel_rfl) (by kernel_rfl) (by kernel_rfl) rfl rfl rfl (YldA.indexSl Tryd.underlying39 Tryd.sizeOf2 rfl rfl hrowB rfl) ?_
        refine AN.all (rs := [2, 5, 8, 10]) (by kernel_rfl) rfl ⟨?_, ?_, ?_, ?_, trivial⟩
        · refine Stp.eff rfl rfl (Eff.yld (Yld.load Tryd.isAgg9 rfl rfl) rfl rfl) ?_
          refine AN.all (rs := [5, 8, 10]) (by kernel_rfl) rfl ⟨?_, ?_, ?_, trivial⟩
          · refine Stp.eff rfl rfl (Eff.yld (Yld.load Tryd.isAgg2 rfl rfl) rfl rfl) ?_
            refine AN.all (rs := [8, 10]) (by kernel_rfl) rfl ⟨?_, ?_, trivial⟩
            · refine Stp.eff rfl rfl (Eff.yld (Yld.load Tryd.isAgg2 rfl rfl) rfl rfl) ?_
              refine AN.all (rs := [9, 10]) (by kernel_rfl) rfl ⟨?_, ?_, trivial⟩
              · refine Stp.eff rfl rfl (Eff.yld (Yld.buildA (zs := [.v (str []), .v (.int .i64 0), .v (.int .i64 0)]) bld58 rfl rfl) rfl rfl) ?_
                refine AN.all (rs := [10]) (by kernel_rfl) rfl ⟨?_, trivial⟩
                refine Stp.eff rfl rfl (Eff.alloc 2 Tryd.zeroValue58 rfl rfl rfl) ?_
                refine AN.all (rs := [11]) (by kernel_rfl) rfl ⟨?_, trivial⟩
                refine Stp.eff rfl rfl (Eff.store Tryd.sizeOf58 rfl rfl rfl rfl rfl rfl) ?_
                exact AN.done (by kernel_rfl) (Le.intro ⟨rfl, rfl, rfl, rfl, rfl, rfl, rfl, rfl, rfl, rfl, rfl, rfl, rfl, rfl, rfl, rfl, rfl, rfl, rfl, rfl, rfl, rfl, rfl, rfl, rfl, rfl, rfl, rfl, rfl, rfl, trivial⟩ ⟨rfl, rfl, rfl, rfl, trivial⟩)
              · refine Stp.eff rfl rfl (Eff.alloc 2 Tryd.zeroValue58 rfl rfl rfl) ?_
                refine AN.all (rs := [9]) (by kernel_rfl) rfl ⟨?_, trivial⟩
                refine Stp.eff rfl rfl (Eff.yld (Yld.buildA (zs := [.v (str []), .v (.int .i64 0), .v (.int .i64 0)]) bld58 rfl rfl) rfl rfl) ?_
                refine AN.all (rs := [11]) (by kernel_rfl) rfl ⟨?_, trivial⟩
                refine Stp.eff rfl rfl (Eff.store Tryd.sizeOf58 rfl rfl rfl rfl rfl rfl) ?_
                exact AN.done (by kernel_rfl) (Le.intro ⟨rfl, rfl, rfl, rfl, rfl, rfl, rfl, rfl, rfl, rfl, rfl, rfl, rfl, rfl, rfl, rfl, rfl, rfl, rfl, rfl, rfl, rfl, rfl, rfl, rfl, rfl, rfl, rfl, rfl, rfl, trivial⟩ ⟨rfl, rfl, rfl, rfl, trivial⟩)
            · refine Stp.eff rfl rfl (Eff.alloc 2 Tryd.zeroValue58 rfl rfl rfl) ?_
              refine AN.all (rs := [8]) (by kernel_rfl) rfl ⟨?_, trivial⟩
              refine Stp.eff rfl rfl (Eff.yld (Yld.load Tryd.isAgg2 rfl rfl) rfl rfl) ?_
              refine AN.all (rs := [9]) (by kernel_rfl) rfl ⟨?_, trivial⟩
              refine Stp.eff rfl rfl (Eff.yld (Yld.buildA (zs := [.v (str []), .v (.int .i64 0), .v (.int .i64 0)]) bld58 rfl rfl) rfl rfl) ?_
              refine AN.all (rs := [11]) (by kernel_rfl) rfl ⟨?_, trivial⟩
              refine Stp.eff rfl rfl (Eff.store Tryd.sizeOf58 rfl rfl rfl rfl rfl rfl) ?_
              exact AN.done (by kernel_rfl) (Le.intro ⟨rfl, rfl, rfl, rfl, rfl, rfl, rfl, rfl, rfl, rfl, rfl, rfl, rfl, rfl, rfl, rfl, rfl, rfl, rfl, rfl, rfl, rfl, rfl, rfl, rfl, rfl, rfl, rfl, rfl, rfl, trivial⟩ ⟨rfl, rfl, rfl, rfl, trivial⟩)
          · refine Stp.eff rfl rfl (Eff.yld (Yld.load Tryd.isAgg2 rfl rfl) rfl rfl) ?_
            refine AN.all (rs := [5, 10]) (by kernel_rfl) rfl ⟨?_, ?_, trivial⟩
            · refine Stp.eff rfl rfl (Eff.yld (Yld.load Tryd.isAgg2 rfl rfl) rfl rfl) ?_
              refine AN.all (rs := [9, 10]) (by kernel_rfl) rfl ⟨?_, ?_, trivial⟩
              · refine Stp.eff rfl rfl (Eff.yld (Yld.buildA (zs := [.v (str []), .v (.int .i64 0), .v (.int .i64 0)]) bld58 rfl rfl) rfl rfl) ?_
                refine AN.all (rs := [10]) (by kernel_rfl) rfl ⟨?_, trivial⟩
                refine Stp.eff rfl rfl (Eff.alloc 2 Tryd.zeroValue58 rfl rfl rfl) ?_
                refine AN.all (rs := [11]) (by kernel_rfl) rfl ⟨?_, trivial⟩
                refine Stp.eff rfl rfl (Eff.store Tryd.sizeOf58 rfl rfl rfl rfl rfl rfl) ?_
                exact AN.done (by kernel_rfl) (Le.intro ⟨rfl, rfl, rfl, rfl, rfl, rfl, rfl, rfl, rfl, rfl, rfl, rfl, rfl, rfl, rfl, rfl, rfl, rfl, rfl, rfl, rfl, rfl, rfl, rfl, rfl, rfl, rfl, rfl, rfl, rfl, trivial⟩ ⟨rfl, rfl, rfl, rfl, trivial⟩)
              · refine Stp.eff rfl rfl (Eff.alloc 2 Tryd.zeroValue58 rfl rfl rfl) ?_
                refine AN.all (rs := [9]) (by kernel_rfl) rfl ⟨?_, trivial⟩
                refine Stp.eff rfl rfl (Eff.yld (Yld.buildA (zs := [.v (str []), .v (.int .i64 0), .v (.int .i64 0)]) bld58 rfl rfl) rfl rfl) ?_
                refine AN.all (rs := [11]) (by kernel_rfl) rfl ⟨?_, trivial⟩
                refine Stp.eff rfl rfl (Eff.store Tryd.sizeOf58 rfl rfl rfl rfl rfl rfl) ?_
                exact AN.done (by kernel_rfl) (Le.intro ⟨rfl, rfl, rfl, rfl, rfl, rfl, rfl, rfl, rfl, rfl, rfl, rfl, rfl, rfl, rfl, rfl, rfl, rfl, rfl, rfl, rfl, rfl, rfl, rfl, rfl, rfl, rfl, rfl, rfl, rfl, trivial⟩ ⟨rfl, rfl, rfl, rfl, trivial⟩)
            · refine Stp.eff rfl rfl (Eff.alloc 2 Tryd.zeroValue58 rfl rfl rfl) ?_
              refine AN.all (rs := [5]) (by kernel_rfl) rfl ⟨?_, trivial⟩
              refine Stp.eff rfl rfl (Eff.yld (Yld.load Tryd.isAgg2 rfl rfl) rfl rfl) ?_
              refine AN.all (rs := [9]) (by kernel_rfl) rfl ⟨?_, trivial⟩
              refine Stp.eff rfl rfl (Eff.yld (Yld.buildA (zs := [.v (str []), .v (.int .i64 0), .v (.int .i64 0)]) bld58 rfl rfl) rfl rfl) ?_
              refine AN.all (rs := [11]) (by kernel_rfl) rfl ⟨?_, trivial⟩
              refine Stp.eff rfl rfl (Eff.store Tryd.sizeOf58 rfl rfl rfl rfl rfl rfl) ?_
              exact AN.done (by kernel_rfl) (Le.intro ⟨rfl, rfl, rfl, rfl, rfl, rfl, rfl, rfl, rfl, rfl, rfl, rfl, rfl, rfl, rfl, rfl, rfl, rfl, rfl, rfl, rfl, rfl, rfl, rfl, rfl, rfl, rfl, rfl, rfl, rfl, trivial⟩ ⟨rfl, rfl, rfl, rfl, trivial⟩)
          · refine Stp.eff rfl rfl (Eff.alloc 2 Tryd.zeroValue58 rfl rfl rfl) ?_
            refine AN.all (rs := [5, 8]) (by kernel_rfl) rfl ⟨?_, ?_, trivial⟩
            · refine Stp.eff rfl rfl (Eff.yld (Yld.load Tryd.isAgg2 rfl rfl) rfl rfl) ?_
              refine AN.all (rs := [8]) (by kernel_rfl) rfl ⟨?_, trivial⟩
              refine Stp.eff rfl rfl (Eff.yld (Yld.load Tryd.isAgg2 rfl rfl) rfl rfl) ?_
              refine AN.all (rs := [9]) (by kernel_rfl) rfl ⟨?_, trivial⟩
              refine Stp.eff rfl rfl (Eff.yld (Yld.buildA (zs := [.v (str []), .v (.int .i64 0), .v (.int .i64 0)]) bld58 rfl rfl) rfl rfl) ?_
              refine AN.all (rs := [11]) (by kernel_rfl) rfl ⟨?_, trivial⟩
              refine Stp.eff rfl rfl (Eff.store Tryd.sizeOf58 rfl rfl rfl rfl rfl rfl) ?_
              exact AN.done (by kernel_rfl) (Le.intro ⟨rfl, rfl, rfl, rfl, rfl, rfl, rfl, rfl, rfl, rfl, rfl, rfl, rfl, rfl, rfl, rfl, rfl, rfl, rfl, rfl, rfl, rfl, rfl, rfl, rfl, rfl, rfl, rfl, rfl, rfl, trivial⟩ ⟨rfl, rfl, rfl, rfl, trivial⟩)
            · refine Stp.eff rfl rfl (Eff.yld (Yld.load Tryd.isAgg2 rfl rfl) rfl rfl) ?_
              refine AN.all (rs := [5]) (by kernel_rfl) rfl ⟨?_, trivial⟩
              refine Stp.eff rfl rfl (Eff.yld (Yld.load Tryd.isAgg2 rfl rfl) rfl rfl) ?_
              refine AN.all (rs := [9]) (by kernel_rfl) rfl ⟨?_, trivial⟩
              refine Stp.eff rfl rfl (Eff.yld (Yld.buildA (zs := [.v (str []), .v (.int .i64 0), .v (.int .i64 0)]) bld58 rfl rfl) rfl rfl) ?_
              refine AN.all (rs := [11]) (by kernel_rfl) rfl ⟨?_, trivial⟩
              refine Stp.eff rfl rfl (Eff.store Tryd.sizeOf58 rfl rfl rfl rfl rfl rfl) ?_
              exact AN.done (by kernel_rfl) (Le.intro ⟨rfl, rfl, rfl, rfl, rfl, rfl, rfl, rfl, rfl, rfl, rfl, rfl, rfl, rfl, rfl, rfl, rfl, rfl, rfl, rfl, rfl, rfl, rfl, rfl, rfl, rfl, rfl, rfl, rfl, rfl, trivial⟩ ⟨rfl, rfl, rfl, rfl, trivial⟩)
        · refine Stp.eff rfl rfl (Eff.yld (Yld.load Tryd.isAgg2 rfl rfl) rfl rfl) ?_
          refine AN.all (rs := [2, 8, 10]) (by kernel_rfl) rfl ⟨?_, ?_, ?_, trivial⟩
          · refine Stp.eff rfl rfl (Eff.yld (Yld.load Tryd.isAgg9 rfl rfl) rfl rfl) ?_
            refine AN.all (rs := [8, 10]) (by kernel_rfl) rfl ⟨?_, ?_, trivial⟩
            · refine Stp.eff rfl rfl (Eff.yld (Yld.load Tryd.isAgg2 rfl rfl) rfl rfl) ?_
              refine AN.all (rs := [9, 10]) (by kernel_rfl) rfl ⟨?_, ?_, trivial⟩
              · refine Stp.eff rfl rfl (Eff.yld (Yld.buildA (zs := [.v (str []), .v (.int .i64 0), .v (.int .i64 0)]) bld58 rfl rfl) rfl rfl) ?_
                refine AN.all (rs := [10]) (by kernel_rfl) rfl ⟨?_, trivial⟩
                refine Stp.eff rfl rfl (Eff.alloc 2 Tryd.zeroValue58 rfl rfl rfl) ?_
                refine AN.all (rs := [11]) (by kernel_rfl) rfl ⟨?_, trivial⟩
                refine Stp.eff rfl rfl (Eff.store Tryd.sizeOf58 rfl rfl rfl rfl rfl rfl) ?_
                exact AN.done (by kernel_rfl) (Le.intro ⟨rfl, rfl, rfl, rfl, rfl, rfl, rfl, rfl, rfl, rfl, rfl, rfl, rfl, rfl, rfl, rfl, rfl, rfl, rfl, rfl, rfl, rfl, rfl, rfl, rfl, rfl, rfl, rfl, rfl, rfl, trivial⟩ ⟨rfl, rfl, rfl, rfl, trivial⟩)
              · refine Stp.eff rfl rfl (Eff.alloc 2 Tryd.zeroValue58 rfl rfl rfl) ?_
                refine AN.all (rs := [9]) (by kernel_rfl) rfl ⟨?_, trivial⟩
                refine Stp.eff rfl rfl (Eff.yld (Yld.buildA (zs := [.v (str []), .v (.int .i64 0), .v (.int .i64 0)]) bld58 rfl rfl) rfl rfl) ?_
                refine AN.all (rs := [11]) (by kernel_rfl) rfl ⟨?_, trivial⟩
                refine Stp.eff rfl rfl (Eff.store Tryd.sizeOf58 rfl rfl rfl rfl rfl rfl) ?_
                exact AN.done (by kernel_rfl) (Le.intro ⟨rfl, rfl, rfl, rfl, rfl, rfl, rfl, rfl, rfl, rfl, rfl, rfl, rfl, rfl, rfl, rfl, rfl, rfl, rfl, rfl, rfl, rfl, rfl, rfl, rfl, rfl, rfl, rfl, rfl, rfl, trivial⟩ ⟨rfl, rfl, rfl, rfl, trivial⟩)
            · refine Stp.eff rfl rfl (Eff.alloc 2 Tryd.zeroValue58 rfl rfl rfl) ?_
              refine AN.all (rs := [8]) (by kernel_rfl) rfl ⟨?_, trivial⟩
              refine Stp.eff rfl rfl (Eff.yld (Yld.load Tryd.isAgg2 rfl rfl) rfl rfl) ?_
              refine AN.all (rs := [9]) (by kernel_rfl) rfl ⟨?_, trivial⟩
              refine Stp.eff rfl rfl (Eff.yld (Yld.buildA (zs := [.v (str []), .v (.int .i64 0), .v (.int .i64 0)]) bld58 rfl rfl) rfl rfl) ?_
              refine AN.all (rs := [11]) (by kernel_rfl) rfl ⟨?_, trivial⟩
              refine Stp.eff rfl rfl (Eff.store Tryd.sizeOf58 rfl rfl rfl rfl rfl rfl) ?_
              exact AN.done (by kernel_rfl) (Le.intro ⟨rfl, rfl, rfl, rfl, rfl, rfl, rfl, rfl, rfl, rfl, rfl, rfl, rfl, rfl, rfl, rfl, rfl, rfl, rfl, rfl, rfl, rfl, rfl, rfl, rfl, rfl, rfl, rfl, rfl, rfl, trivial⟩ ⟨rfl, rfl, rfl, rfl, trivial⟩)
          · refine Stp.eff rfl rfl (Eff.yld (Yld.load Tryd.isAgg2 rfl rfl) rfl rfl) ?_
            refine AN.all (rs := [2, 10]) (by kernel_rfl) rfl ⟨?_, ?_, trivial⟩
            · refine Stp.eff rfl rfl (Eff.yld (Yld.load Tryd.isAgg9 rfl rfl) rfl rfl) ?_
              refine AN.all (rs := [9, 10]) (by kernel_rfl) rfl ⟨?_, ?_, trivial⟩
              · refine Stp.eff rfl rfl (Eff.yld (Yld.buildA (zs := [.v (str []), .v (.int .i64 0), .v (.int .i64 0)]) bld58 rfl rfl) rfl rfl) ?_
                refine AN.all (rs := [10]) (by kernel_rfl) rfl ⟨?_, trivial⟩
                refine Stp.eff rfl rfl (Eff.alloc 2 Tryd.zeroValue58 rfl rfl rfl) ?_
                refine AN.all (rs := [11]) (by kernel_rfl) rfl ⟨?_, trivial⟩
                refine Stp.eff rfl rfl (Eff.store Tryd.sizeOf58 rfl rfl rfl rfl rfl rfl) ?_
                exact AN.done (by kernel_rfl) (Le.intro ⟨rfl, rfl, rfl, rfl, rfl, rfl, rfl, rfl, rfl, rfl, rfl, rfl, rfl, rfl, rfl, rfl, rfl, rfl, rfl, rfl, rfl, rfl, rfl, rfl, rfl, rfl, rfl, rfl, rfl, rfl, trivial⟩ ⟨rfl, rfl, rfl, rfl, trivial⟩)
              · refine Stp.eff rfl rfl (Eff.alloc 2 Tryd.zeroValue58 rfl rfl rfl) ?_
                refine AN.all (rs := [9]) (by kernel_rfl) rfl ⟨?_, trivial⟩
                refine Stp.eff rfl rfl (Eff.yld (Yld.buildA (zs := [.v (str []), .v (.int .i64 0), .v (.int .i64 0)]) bld58 rfl rfl) rfl rfl) ?_
                refine AN.all (rs := [11]) (by kernel_rfl) rfl ⟨?_, trivial⟩
                refine Stp.eff rfl rfl (Eff.store Tryd.sizeOf58 rfl rfl rfl rfl rfl rfl) ?_
                exact AN.done (by kernel_rfl) (Le.intro ⟨rfl, rfl, rfl, rfl, rfl, rfl, rfl, rfl, rfl, rfl, rfl, rfl, rfl, rfl, rfl, rfl, rfl, rfl, rfl, rfl, rfl, rfl, rfl, rfl, rfl, rfl, rfl, rfl, rfl, rfl, trivial⟩ ⟨rfl, rfl, rfl, rfl, trivial⟩)
            · refine Stp.eff rfl rfl (Eff.alloc 2 Tryd.zeroValue58 rfl rfl rfl) ?_
              refine AN.all (rs := [2]) (by kernel_rfl) rfl ⟨?_, trivial⟩
              refine Stp.eff rfl rfl (Eff.yld (Yld.load Tryd.isAgg9 rfl rfl) rfl rfl) ?_
              refine AN.all (rs := [9]) (by kernel_rfl) rfl ⟨?_, trivial⟩
              refine Stp.eff rfl rfl (Eff.yld (Yld.buildA (zs := [.v (str []), .v (.int .i64 0), .v (.int .i64 0)]) bld58 rfl rfl) rfl rfl) ?_
              refine AN.all (rs := [11]) (by kernel_rfl) rfl ⟨?_, trivial⟩
              refine Stp.eff rfl rfl (Eff.store Tryd.sizeOf58 rfl rfl rfl rfl rfl rfl) ?_
              exact AN.done (by kernel_rfl) (Le.intro ⟨rfl, rfl, rfl, rfl, rfl, rfl, rfl, rfl, rfl, rfl, rfl, rfl, rfl, rfl, rfl, rfl, rfl, rfl, rfl, rfl, rfl, rfl, rfl, rfl, rfl, rfl, rfl, rfl, rfl, rfl, trivial⟩ ⟨rfl, rfl, rfl, rfl, trivial⟩)
          · refine Stp.eff rfl rfl (Eff.alloc 2 Tryd.zeroValue58 rfl rfl rfl) ?_
            refine AN.all (rs := [2, 8]) (by kernel_rfl) rfl ⟨?_, ?_, trivial⟩
            · refine Stp.eff rfl rfl (Eff.yld (Yld.load Tryd.isAgg9 rfl rfl) rfl rfl) ?_
              refine AN.all (rs := [8]) (by kernel_rfl) rfl ⟨?_, trivial⟩
              refine Stp.eff rfl rfl (Eff.yld (Yld.load Tryd.isAgg2 rfl rfl) rfl rfl) ?_
              refine AN.all (rs := [9]) (by kernel_rfl) rfl ⟨?_, trivial⟩
              refine Stp.eff rfl rfl (Eff.yld (Yld.buildA (zs := [.v (str []), .v (.int .i64 0), .v (.int .i64 0)]) bld58 rfl rfl) rfl rfl) ?_
              refine AN.all (rs := [11]) (by kernel_rfl) rfl ⟨?_, trivial⟩
              refine Stp.eff rfl rfl (Eff.store Tryd.sizeOf58 rfl rfl rfl rfl rfl rfl) ?_
              exact AN.done (by kernel_rfl) (Le.intro ⟨rfl, rfl, rfl, rfl, rfl, rfl, rfl, rfl, rfl, rfl, rfl, rfl, rfl, rfl, rfl, rfl, rfl, rfl, rfl, rfl, rfl, rfl, rfl, rfl, rfl, rfl, rfl, rfl, rfl, rfl, trivial⟩ ⟨rfl, rfl, rfl, rfl, trivial⟩)
            · refine Stp.eff rfl rfl (Eff.yld (Yld.load Tryd.isAgg2 rfl rfl) rfl rfl) ?_
              refine AN.all (rs := [2]) (by kernel_rfl) rfl ⟨?_, trivial⟩
              refine Stp.eff rfl rfl (Eff.yld (Yld.load Tryd.isAgg9 rfl rfl) rfl rfl) ?_
              refine AN.all (rs := [9]) (by kernel_rfl) rfl ⟨?_, trivial⟩
              refine Stp.eff rfl rfl (Eff.yld (Yld.buildA (zs := [.v (str []), .v (.int .i64 0), .v (.int .i64 0)]) bld58 rfl rfl) rfl rfl) ?_
              refine AN.all (rs := [11]) (by kernel_rfl) rfl ⟨?_, trivial⟩
              refine Stp.eff rfl rfl (Eff.store Tryd.sizeOf58 rfl rfl rfl rfl rfl rfl) ?_
              exact AN.done (by kernel_rfl) (Le.intro ⟨rfl, rfl, rfl, rfl, rfl, rfl, rfl, rfl, rfl, rfl, rfl, rfl, rfl, rfl, rfl, rfl, rfl, rfl, rfl, rfl, rfl, rfl, rfl, rfl, rfl, rfl, rfl, rfl, rfl, rfl, trivial⟩ ⟨rfl, rfl, rfl, rfl, trivial⟩)
        · refine Stp.eff rfl rfl (Eff.yld (Yld.load Tryd.isAgg2 rfl rfl) rfl rfl) ?_
          refine AN.all (rs := [2, 5, 10]) (by kernel_rfl) rfl ⟨?_, ?_, ?_, trivial⟩
          · refine Stp.eff rfl rfl (Eff.yld (Yld.load Tryd.isAgg9 rfl rfl) rfl rfl) ?_
            refine AN.all (rs := [5, 10]) (by kernel_rfl) rfl ⟨?_, ?_, trivial⟩
            · refine Stp.eff rfl rfl (Eff.yld (Yld.load Tryd.isAgg2 rfl rfl) rfl rfl) ?_
              refine AN.all (rs := [9, 10]) (by kernel_rfl) rfl ⟨?_, ?_, trivial⟩
              · refine Stp.eff rfl rfl (Eff.yld (Yld.buildA (zs := [.v (str []), .v (.int .i64 0), .v (.int .i64 0)]) bld58 rfl rfl) rfl rfl) ?_
                refine AN.all (rs := [10]) (by kernel_rfl) rfl ⟨?_, trivial⟩
                refine Stp.eff rfl rfl (Eff.alloc 2 Tryd.zeroValue58 rfl rfl rfl) ?_
                refine AN.all (rs := [11]) (by kernel_rfl) rfl ⟨?_, trivial⟩
                refine Stp.eff rfl rfl (Eff.store Tryd.sizeOf58 rfl rfl rfl rfl rfl rfl) ?_
                exact AN.done (by kernel_rfl) (Le.intro ⟨rfl, rfl, rfl, rfl, rfl, rfl, rfl, rfl, rfl, rfl, rfl, rfl, rfl, rfl, rfl, rfl, rfl, rfl, rfl, rfl, rfl, rfl, rfl, rfl, rfl, rfl, rfl, rfl, rfl, rfl, trivial⟩ ⟨rfl, rfl, rfl, rfl, trivial⟩)
              · refine Stp.eff rfl rfl (Eff.alloc 2 Tryd.zeroValue58 rfl rfl rfl) ?_
                refine AN.all (rs := [9]) (by kernel_rfl) rfl ⟨?_, trivial⟩
                refine Stp.eff rfl rfl (Eff.yld (Yld.buildA (zs := [.v (str []), .v (.int .i64 0), .v (.int .i64 0)]) bld58 rfl rfl) rfl rfl) ?_
                refine AN.all (rs := [11]) (by kernel_rfl) rfl ⟨?_, trivial⟩
                refine Stp.eff rfl rfl (Eff.store Tryd.sizeOf58 rfl rfl rfl rfl rfl rfl) ?_
                exact AN.done (by kernel_rfl) (Le.intro ⟨rfl, rfl, rfl, rfl, rfl, rfl, rfl, rfl, rfl, rfl, rfl, rfl, rfl, rfl, rfl, rfl, rfl, rfl, rfl, rfl, rfl, rfl, rfl, rfl, rfl, rfl, rfl, rfl, rfl, rfl, trivial⟩ ⟨rfl, rfl, rfl, rfl, trivial⟩)
            · refine Stp.eff rfl rfl (Eff.alloc 2 Tryd.zeroValue58 rfl rfl rfl) ?_
              refine AN.all (rs := [5]) (by kernel_rfl) rfl ⟨?_, trivial⟩
              refine Stp.eff rfl rfl (Eff.yld (Yld.load Tryd.isAgg2 rfl rfl) rfl rfl) ?_
              refine AN.all (rs := [9]) (by kernel_rfl) rfl ⟨?_, trivial⟩
              refine Stp.eff rfl rfl (Eff.yld (Yld.buildA (zs := [.v (str []), .v (.int .i64 0), .v (.int .i64 0)]) bld58 rfl rfl) rfl rfl) ?_
              refine AN.all (rs := [11]) (by kernel_rfl) rfl ⟨?_, trivial⟩
              refine Stp.eff rfl rfl (Eff.store Tryd.sizeOf58 rfl rfl rfl rfl rfl rfl) ?_
              exact AN.done (by kernel_rfl) (Le.intro ⟨rfl, rfl, rfl, rfl, rfl, rfl, rfl, rfl, rfl, rfl, rfl, rfl, rfl, rfl, rfl, rfl, rfl, rfl, rfl, rfl, rfl, rfl, rfl, rfl, rfl, rfl, rfl, rfl, rfl, rfl, trivial⟩ ⟨rfl, rfl, rfl, rfl, trivial⟩)
          · refine Stp.eff rfl rfl (Eff.yld (Yld.load Tryd.isAgg2 rfl rfl) rfl rfl) ?_
            refine AN.all (rs := [2, 10]) (by kernel_rfl) rfl ⟨?_, ?_, trivial⟩
            · refine Stp.eff rfl rfl (Eff.yld (Yld.load Tryd.isAgg9 rfl rfl) rfl rfl) ?_
              refine AN.all (rs := [9, 10]) (by kernel_rfl) rfl ⟨?_, ?_, trivial⟩
              · refine Stp.eff rfl rfl (Eff.yld (Yld.buildA (zs := [.v (str []), .v (.int .i64 0), .v (.int .i64 0)]) bld58 rfl rfl) rfl rfl) ?_
                refine AN.all (rs := [10]) (by kernel_rfl) rfl ⟨?_, trivial⟩
                refine Stp.eff rfl rfl (Eff.alloc 2 Tryd.zeroValue58 rfl rfl rfl) ?_
                refine AN.all (rs := [11]) (by kernel_rfl) rfl ⟨?_, trivial⟩
                refine Stp.eff rfl rfl (Eff.store Tryd.sizeOf58 rfl rfl rfl rfl rfl rfl) ?_
                exact AN.done (by kernel_rfl) (Le.intro ⟨rfl, rfl, rfl, rfl, rfl, rfl, rfl, rfl, rfl, rfl, rfl, rfl, rfl, rfl, rfl, rfl, rfl, rfl, rfl, rfl, rfl, rfl, rfl, rfl, rfl, rfl, rfl, rfl, rfl, rfl, trivial⟩ ⟨rfl, rfl, rfl, rfl, trivial⟩)
              · refine Stp.eff rfl rfl (Eff.alloc 2 Tryd.zeroValue58 rfl rfl rfl) ?_
                refine AN.all (rs := [9]) (by kernel_rfl) rfl ⟨?_, trivial⟩
                refine Stp.eff rfl rfl (Eff.yld (Yld.buildA (zs := [.v (str []), .v (.int .i64 0), .v (.int .i64 0)]) bld58 rfl rfl) rfl rfl) ?_
                refine AN.all (rs := [11]) (by kernel_rfl) rfl ⟨?_, trivial⟩
                refine Stp.eff rfl rfl (Eff.store Tryd.sizeOf58 rfl rfl rfl rfl rfl rfl) ?_
                exact AN.done (by kernel_rfl) (Le.intro ⟨rfl, rfl, rfl, rfl, rfl, rfl, rfl, rfl, rfl, rfl, rfl, rfl, rfl, rfl, rfl, rfl, rfl, rfl, rfl, rfl, rfl, rfl, rfl, rfl, rfl, rfl, rfl, rfl, rfl, rfl, trivial⟩ ⟨rfl, rfl, rfl, rfl, trivial⟩)
            · refine Stp.eff rfl rfl (Eff.alloc 2 Tryd.zeroValue58 rfl rfl rfl) ?_
              refine AN.all (rs := [2]) (by kernel_rfl) rfl ⟨?_, trivial⟩
              refine Stp.eff rfl rfl (Eff.yld (Yld.load Tryd.isAgg9 rfl rfl) rfl rfl) ?_
              refine AN.all (rs := [9]) (by kernel_rfl) rfl ⟨?_, trivial⟩
              refine Stp.eff rfl rfl (Eff.yld (Yld.buildA (zs := [.v (str []), .v (.int .i64 0), .v (.int .i64 0)]) bld58 rfl rfl) rfl rfl) ?_
              refine AN.all (rs := [11]) (by kernel_rfl) rfl ⟨?_, trivial⟩
              refine Stp.eff rfl rfl (Eff.store Tryd.sizeOf58 rfl rfl rfl rfl rfl rfl) ?_
              exact AN.done (by kernel_rfl) (Le.intro ⟨rfl, rfl, rfl, rfl, rfl, rfl, rfl, rfl, rfl, rfl, rfl, rfl, rfl, rfl, rfl, rfl, rfl, rfl, rfl, rfl, rfl, rfl, rfl, rfl, rfl, rfl, rfl, rfl, rfl, rfl, trivial⟩ ⟨rfl, rfl, rfl, rfl, trivial⟩)
          · refine Stp.eff rfl rfl (Eff.alloc 2 Tryd.zeroValue58 rfl rfl rfl) ?_
            refine AN.all (rs := [2, 5]) (by kernel_rfl) rfl ⟨?_, ?_, trivial⟩
            · refine Stp.eff rfl rfl (Eff.yld (Yld.load Tryd.isAgg9 rfl rfl) rfl rfl) ?_
              refine AN.all (rs := [5]) (by kernel_rfl) rfl ⟨?_, trivial⟩
              refine Stp.eff rfl rfl (Eff.yld (Yld.load Tryd.isAgg2 rfl rfl) rfl rfl) ?_
              refine AN.all (rs := [9]) (by kernel_rfl) rfl ⟨?_, trivial⟩
              refine Stp.eff rfl rfl (Eff.yld (Yld.buildA (zs := [.v (str []), .v (.int .i64 0), .v (.int .i64 0)]) bld58 rfl rfl) rfl rfl) ?_
              refine AN.all (rs := [11]) (by kernel_rfl) rfl ⟨?_, trivial⟩
              refine Stp.eff rfl rfl (Eff.store Tryd.sizeOf58 rfl rfl rfl rfl rfl rfl) ?_
              exact AN.done (by kernel_rfl) (Le.intro ⟨rfl, rfl, rfl, rfl, rfl, rfl, rfl, rfl, rfl, rfl, rfl, rfl, rfl, rfl, rfl, rfl, rfl, rfl, rfl, rfl, rfl, rfl, rfl, rfl, rfl, rfl, rfl, rfl, rfl, rfl, trivial⟩ ⟨rfl, rfl, rfl, rfl, trivial⟩)
            · refine Stp.eff rfl rfl (Eff.yld (Yld.load Tryd.isAgg2 rfl rfl) rfl rfl) ?_
              refine AN.all (rs := [2]) (by kernel_rfl) rfl ⟨?_, trivial⟩
              refine Stp.eff rfl rfl (Eff.yld (Yld.load Tryd.isAgg9 rfl rfl) rfl rfl) ?_
              refine AN.all (rs := [9]) (by kernel_rfl) rfl ⟨?_, trivial⟩
              refine Stp.eff rfl rfl (Eff.yld (Yld.buildA (zs := [.v (str []), .v (.int .i64 0), .v (.int .i64 0)]) bld58 rfl rfl) rfl rfl) ?_
              refine AN.all (rs := [11]) (by kernel_rfl) rfl ⟨?_, trivial⟩
              refine Stp.eff rfl rfl (Eff.store Tryd.sizeOf58 rfl rfl rfl rfl rfl rfl) ?_
              exact AN.done (by kernel_rfl) (Le.intro ⟨rfl, rfl, rfl, rfl, rfl, rfl, rfl, rfl, rfl, rfl, rfl, rfl, rfl, rfl, rfl, rfl, rfl, rfl, rfl, rfl, rfl, rfl, rfl, rfl, rfl, rfl, rfl, rfl, rfl, rfl, trivial⟩ ⟨rfl, rfl, rfl, rfl, trivial⟩)
        · refine Stp.eff rfl rfl (Eff.alloc 2 Tryd.zeroValue58 rfl rfl rfl) ?_
          refine AN.all (rs := [2, 5, 8]) (by kernel_rfl) rfl ⟨?_, ?_, ?_, trivial⟩
          · refine Stp.eff rfl rfl (Eff.yld (Yld.load Tryd.isAgg9 rfl rfl) rfl rfl) ?_
            refine AN.all (rs := [5, 8]) (by kernel_rfl) rfl ⟨?_, ?_, trivial⟩
            · refine Stp.eff rfl rfl (Eff.yld (Yld.load Tryd.isAgg2 rfl rfl) rfl rfl) ?_
              refine AN.all (rs := [8]) (by kernel_rfl) rfl ⟨?_, trivial⟩
              refine Stp.eff rfl rfl (Eff.yld (Yld.load Tryd.isAgg2 rfl rfl) rfl rfl) ?_
              refine AN.all (rs := [9]) (by kernel_rfl) rfl ⟨?_, trivial⟩
              refine Stp.eff rfl rfl (Eff.yld (Yld.buildA (zs := [.v (str []), .v (.int .i64 0), .v (.int .i64 0)]) bld58 rfl rfl) rfl rfl) ?_
              refine AN.all (rs := [11]) (by kernel_rfl) rfl ⟨?_, trivial⟩
              refine Stp.eff rfl rfl (Eff.store Tryd.sizeOf58 rfl rfl rfl rfl rfl rfl) ?_
              exact AN.done (by kernel_rfl) (Le.intro ⟨rfl, rfl, rfl, rfl, rfl, rfl, rfl, rfl, rfl, rfl, rfl, rfl, rfl, rfl, rfl, rfl, rfl, rfl, rfl, rfl, rfl, rfl, rfl, rfl, rfl, rfl, rfl, rfl, rfl, rfl, trivial⟩ ⟨rfl, rfl, rfl, rfl, trivial⟩)
            · refine Stp.eff rfl rfl (Eff.yld (Yld.load Tryd.isAgg2 rfl rfl) rfl rfl) ?_
              refine AN.all (rs := [5]) (by kernel_rfl) rfl ⟨?_, trivial⟩
              refine Stp.eff rfl rfl (Eff.yld (Yld.load Tryd.isAgg2 rfl rfl) rfl rfl) ?_
              refine AN.all (rs := [9]) (by kernel_rfl) rfl ⟨?_, trivial⟩
              refine Stp.eff rfl rfl (Eff.yld (Yld.buildA (zs := [.v (str []), .v (.int .i64 0), .v (.int .i64 0)]) bld58 rfl rfl) rfl rfl) ?_
              refine AN.all (rs := [11]) (by kernel_rfl) rfl ⟨?_, trivial⟩
              refine Stp.eff rfl rfl (Eff.store Tryd.sizeOf58 rfl rfl rfl rfl rfl rfl) ?_
              exact AN.done (by kernel_rfl) (Le.intro ⟨rfl, rfl, rfl, rfl, rfl, rfl, rfl, rfl, rfl, rfl, rfl, rfl, rfl, rfl, rfl, rfl, rfl, rfl, rfl, rfl, rfl, rfl, rfl, rfl, rfl, rfl, rfl, rfl, rfl, rfl, trivial⟩ ⟨rfl, rfl, rfl, rfl, trivial⟩)
          · refine Stp.eff rfl rfl (Eff.yld (Yld.load Tryd.isAgg2 rfl rfl) rfl rfl) ?_
            refine AN.all (rs := [2, 8]) (by kernel_rfl) rfl ⟨?_, ?_, trivial⟩
            · refine Stp.eff rfl rfl (Eff.yld (Yld.load Tryd.isAgg9 rfl rfl) rfl rfl) ?_
              refine AN.all (rs := [8]) (by kernel_rfl) rfl ⟨?_, trivial⟩
              refine Stp.eff rfl rfl (Eff.yld (Yld.load Tryd.isAgg2 rfl rfl) rfl rfl) ?_
              refine AN.all (rs := [9]) (by kernel_rfl) rfl ⟨?_, trivial⟩
              refine Stp.eff rfl rfl (Eff.yld (Yld.buildA (zs := [.v (str []), .v (.int .i64 0), .v (.int .i64 0)]) bld58 rfl rfl) rfl rfl) ?_
              refine AN.all (rs := [11]) (by kernel_rfl) rfl ⟨?_, trivial⟩
              refine Stp.eff rfl rfl (Eff.store Tryd.sizeOf58 rfl rfl rfl rfl rfl rfl) ?_
              exact AN.done (by kernel_rfl) (Le.intro ⟨rfl, rfl, rfl, rfl, rfl, rfl, rfl, rfl, rfl, rfl, rfl, rfl, rfl, rfl, rfl, rfl, rfl, rfl, rfl, rfl, rfl, rfl, rfl, rfl, rfl, rfl, rfl, rfl, rfl, rfl, trivial⟩ ⟨rfl, rfl, rfl, rfl, trivial⟩)
            · refine Stp.eff rfl rfl (Eff.yld (Yld.load Tryd.isAgg2 rfl rfl) rfl rfl) ?_
              refine AN.all (rs := [2]) (by kernel_rfl) rfl ⟨?_, trivial⟩
              refine Stp.eff rfl rfl (Eff.yld (Yld.load Tryd.isAgg9 rfl rfl) rfl rfl) ?_
              refine AN.all (rs := [9]) (by kernel_rfl) rfl ⟨?_, trivial⟩
              refine Stp.eff rfl rfl (Eff.yld (Yld.buildA (zs := [.v (str []), .v (.int .i64 0), .v (.int .i64 0)]) bld58 rfl rfl) rfl rfl) ?_
              refine AN.all (rs := [11]) (by kernel_rfl) rfl ⟨?_, trivial⟩
              refine Stp.eff rfl rfl (Eff.store Tryd.sizeOf58 rfl rfl rfl rfl rfl rfl) ?_
              exact AN.done (by kernel_rfl) (Le.intro ⟨rfl, rfl, rfl, rfl, rfl, rfl, rfl, rfl, rfl, rfl, rfl, rfl, rfl, rfl, rfl, rfl, rfl, rfl, rfl, rfl, rfl, rfl, rfl, rfl, rfl, rfl, rfl, rfl, rfl, rfl, trivial⟩ ⟨rfl, rfl, rfl, rfl, trivial⟩)
          · refine Stp.eff rfl rfl (Eff.yld (Yld.load Tryd.isAgg2 rfl rfl) rfl rfl) ?_
            refine AN.all (rs := [2, 5]) (by kernel_rfl) rfl ⟨?_, ?_, trivial⟩
            · refine Stp.eff rfl rfl (Eff.yld (Yld.load Tryd.isAgg9 rfl rfl) rfl rfl) ?_
              refine AN.all (rs := [5]) (by kernel_rfl) rfl ⟨?_, trivial⟩
              refine Stp.eff rfl rfl (Eff.yld (Yld.load Tryd.isAgg2 rfl rfl) rfl rfl) ?_
              refine AN.all (rs := [9]) (by kernel_rfl) rfl ⟨?_, trivial⟩
              refine Stp.eff rfl rfl (Eff.yld (Yld.buildA (zs := [.v (str []), .v (.int .i64 0), .v (.int .i64 0)]) bld58 rfl rfl) rfl rfl) ?_
              refine AN.all (rs := [11]) (by kernel_rfl) rfl ⟨?_, trivial⟩
              refine Stp.eff rfl rfl (Eff.store Tryd.sizeOf58 rfl rfl rfl rfl rfl rfl) ?_
              exact AN.done (by kernel_rfl) (Le.intro ⟨rfl, rfl, rfl, rfl, rfl, rfl, rfl, rfl, rfl, rfl, rfl, rfl, rfl, rfl, rfl, rfl, rfl, rfl, rfl, rfl, rfl, rfl, rfl, rfl, rfl, rfl, rfl, rfl, rfl, rfl, trivial⟩ ⟨rfl, rfl, rfl, rfl, trivial⟩)
            · refine Stp.eff rfl rfl (Eff.yld (Yld.load Tryd.isAgg2 rfl rfl) rfl rfl) ?_
              refine AN.all (rs := [2]) (by kernel_rfl) rfl ⟨?_, trivial⟩
              refine Stp.eff rfl rfl (Eff.yld (Yld.load Tryd.isAgg9 rfl rfl) rfl rfl) ?_
              refine AN.all (rs := [9]) (by kernel_rfl) rfl ⟨?_, trivial⟩
              refine Stp.eff rfl rfl (Eff.yld (Yld.buildA (zs := [.v (str []), .v (.int .i64 0), .v (.int .i64 0)]) bld58 rfl rfl) rfl rfl) ?_
              refine AN.all (rs := [11]) (by kernel_rfl) rfl ⟨?_, trivial⟩
              refine Stp.eff rfl rfl (Eff.store Tryd.sizeOf58 rfl rfl rfl rfl rfl rfl) ?_
              exact AN.done (by kernel_rfl) (Le.intro ⟨rfl, rfl, rfl, rfl, rfl, rfl, rfl, rfl, rfl, rfl, rfl, rfl, rfl, rfl, rfl, rfl, rfl, rfl, rfl, rfl, rfl, rfl, rfl, rfl, rfl, rfl, rfl, rfl, rfl, rfl, trivial⟩ ⟨rfl, rfl, rfl, rfl, trivial⟩)
      · -- behind
        refine AC.seq ?_
        refine AC.seq ?_
        refine AC.region ?_
        refine AO.yld _ (Yld.loadAgg Tryd.isAgg58 Tryd.sizeOf58 rfl rfl rfl rfl) rfl rfl rfl ?_
        refine AO.yld _ (Yld.call rfl rfl Tryd.call74 rfl rfl rfl (impl_validMachine_c (x := ⟨a, n, m⟩) (by show a.length ≤ 1048576; omega)) rfl) rfl rfl rfl ?_
        refine AO.yld _ (Yld.not rfl) rfl rfl rfl ?_
        refine AO.yld _ (Yld.move rfl) rfl rfl rfl ?_
        refine AO.splitAt 36 _ rfl (fun s36 => ?_) (fun s36 => ?_)
        · -- s36 True
          have hno : (rd3 (fun a n m => okMachine ⟨a, n, m⟩) s) = none := rdw_not mach_ok hab hnn hnm (fun h => by have h9 := s36; rw [Bool.not_eq_true'] at h9; have h8 : okMachine ⟨a, n, m⟩ = false := h9; rw [h8] at h; cases h.1)
          refine AO.skipF rfl rfl rfl rfl rfl ?_
          refine AO.skipF rfl rfl rfl rfl rfl ?_
          refine AO.skipF rfl rfl rfl rfl rfl ?_
          refine AO.skipF rfl rfl rfl rfl rfl ?_
          refine AO.yld _ (Yld.pickT rfl rfl) rfl rfl rfl ?_
          refine AO.nil ?_
          refine AC.condT rfl ?_
          refine AC.seq ?_
          refine AC.region ?_
          refine AO.yld _ (Yld.buildA (zs := [.v (str []), .v (.int .i64 0), .v (.int .i64 0)]) bld58 rfl rfl) rfl rfl rfl ?_
          refine AO.store Tryd.sizeOf58 rfl rfl rfl rfl rfl rfl ?_
          refine AO.yld _ (Yld.assign rfl) rfl rfl rfl ?_
          refine AO.nil ?_
          refine FnE.ret () [0] [0] Tryd.results31 (RVs.cons (RV.cell Tryd.isAgg58 Tryd.sizeOf58 rfl rfl rfl rfl) (RVs.cons (RV.tmp rfl) RVs.nil)) rfl rfl rfl ?_ ?_ ⟨⟨_, rfl, ?_⟩, trivial⟩
          · -- holds
            trivial
          · -- value
            first | (rw [hno]; rfl) | (rw [hye]; rfl)
          · -- thing 0
            first | rfl | exact vecE (by first | rfl | (simp_all; done) | grind) | (simp_all; done)
        · -- s36 False
          have hok : okMachine ⟨a, n, m⟩ = true := by have h9 := s36; rw [Bool.not_eq_false'] at h9; exact h9
          have htx : machText ⟨a, n, m⟩ = txt3 a n m := if_pos hok
          refine AO.yldG _ (Yld.loadAgg Tryd.isAgg58 Tryd.sizeOf58 rfl rfl rfl rfl) rfl rfl rfl rfl rfl ?_
          refine AO.callW (wantedG rfl rfl rfl) [0] [0] [0] rfl rfl Tryd.call32 rfl (impl_MachineText_c (x := ⟨a, n, m⟩) (by show a.length ≤ 1048576; omega)) (.own rfl) rfl (fun _ => rfl) ⟨rfl, trivial⟩ rfl (fun _ => rfl) (fun _ => rfl) (fun _ _ => ?_)
          refine AO.yldG _ (Yld.move rfl) rfl rfl rfl rfl rfl ?_
          refine AO.yldG _ (Yld.cmpStr rfl rfl rfl) rfl rfl rfl rfl rfl ?_
          refine AO.yld _ (Yld.pickF rfl rfl) rfl rfl rfl ?_
          refine AO.nil ?_
          refine AC.cond _ rfl (fun c41 => ?_) (fun c41 => ?_)
          · -- c41 True
            have hno : (rd3 (fun a n m => okMachine ⟨a, n, m⟩) s) = none := rdw_not mach_ok hab hnn hnm (fun h => by have h9 : ¬ machText ⟨a, n, m⟩ = s := (by simpa using c41); exact h9 (htx.trans h.2))
            refine AC.seq ?_
            refine AC.region ?_
            refine AO.yld _ (Yld.buildA (zs := [.v (str []), .v (.int .i64 0), .v (.int .i64 0)]) bld58 rfl rfl) rfl rfl rfl ?_
            refine AO.store Tryd.sizeOf58 rfl rfl rfl rfl rfl rfl ?_
            refine AO.yld _ (Yld.assign rfl) rfl rfl rfl ?_
            refine AO.nil ?_
            refine FnE.ret () [0] [0] Tryd.results31 (RVs.cons (RV.cell Tryd.isAgg58 Tryd.sizeOf58 rfl rfl rfl rfl) (RVs.cons (RV.tmp rfl) RVs.nil)) rfl rfl rfl ?_ ?_ ⟨⟨_, rfl, ?_⟩, trivial⟩
            · -- holds
              trivial
            · -- value
              first | (rw [hno]; rfl) | (rw [hye]; rfl)
            · -- thing 0
              first | rfl | exact vecE (by first | rfl | (simp_all; done) | grind) | (simp_all; done)
          · -- c41 False
            have hye : (rd3 (fun a n m => okMachine ⟨a, n, m⟩) s) = some (a, n, m) := rdw_yes mach_ok hab hnn hnm hok (by have h9 : machText ⟨a, n, m⟩ = s := (by simpa using c41); exact htx.symm.trans h9)
            refine AC.skip ?_
            refine AC.seq ?_
            refine AC.region ?_
            refine AO.yld _ (Yld.loadAgg Tryd.isAgg58 Tryd.sizeOf58 rfl rfl rfl rfl) rfl rfl rfl ?_
            refine AO.store Tryd.sizeOf58 rfl rfl rfl rfl rfl rfl ?_
            refine AO.yld _ (Yld.assign rfl) rfl rfl rfl ?_
            refine AO.nil ?_
            refine FnE.ret () [0] [0] Tryd.results31 (RVs.cons (RV.cell Tryd.isAgg58 Tryd.sizeOf58 rfl rfl rfl rfl) (RVs.cons (RV.tmp rfl) RVs.nil)) rfl rfl rfl ?_ ?_ ⟨⟨_, rfl, ?_⟩, trivial⟩
            · -- holds
              trivial
            · -- value
              first | (rw [hno]; rfl) | (rw [hye]; rfl)
            · -- thing 0
              first | rfl | exact vecE (by first | rfl | (simp_all; done) | grind) | (simp_all; done)

end Go.Proofs.YtghcdgjbgljipaaDoor
