/- Contracts of functions of the program, each by a walk of its text in the calculus V. -/
import Derived.Test.YtdgjlkdcklfieaaDoorR6A
import Derived.Test.YtdgjlkdcklfieaaDoorD37
set_option linter.all false
set_option linter.unusedSimpArgs false
set_option linter.unnecessarySimpa false
set_option linter.unusedVariables false
namespace Go.Proofs.YtdgjlkdcklfieaaDoor
open Go Go.V

theorem impl_Decimal_c {n : Int} (h0 : -9223372036854775808 ≤ n) (h1 : n ≤ 9223372036854775807) :
    FnE (α := Unit) Tryd.prog 86 [.p (.v (.int .i64 n))] [(0, powR Tryd.prog)] [0] (fun _ => True) (fun _ => .p (.v (str (Lib.itoa n)))) (fun _ => [(0, powR Tryd.prog)]) := by
  refine FnE.intro Tryd.func86 rfl Tryd.ntmps86 rfl rfl (fun w0 F0 η φ w => ?_)
  refine AC.seq ?_
  refine AC.region ?_
  refine AO.yld _ (Yld.assign rfl) rfl rfl rfl ?_
  refine AO.nil ?_
  refine AC.seq ?_
  refine AC.region ?_
  refine AO.yld _ (Yld.move rfl) rfl rfl rfl ?_
  refine AO.callW (wantedN rfl) [0] [0] [0] rfl rfl Tryd.call150 rfl (fmt_fn ⟨Tryd.strconv_FormatInt_10⟩ (by omega) (by omega)) (.own rfl) rfl (fun _ => rfl) ⟨rfl, trivial⟩ rfl (fun _ => rfl) (fun _ => rfl) (fun _ _ => ?_)
  refine AO.yld _ (Yld.assign rfl) rfl rfl rfl ?_
  refine AO.nil ?_
  refine FnE.ret () [0] [0] Tryd.results86 (RVs.cons (RV.tmp rfl) RVs.nil) rfl rfl rfl ?_ ?_ ⟨⟨_, rfl, ?_⟩, trivial⟩
  · -- holds
    trivial
  · -- value
    rfl
  · -- thing 0
    first | rfl | exact vecE (by first | rfl | (simp_all; done) | grind) | (simp_all; done)

theorem spec_l25Text_c {x : NV} (hs : x.name.length ≤ 1048576) (hv : x.val.natAbs < 1000000000000000000) :
    Pure Tryd.prog 88 [.ptr (encNV x)] (.v (str (x.name ++ [32] ++ Lib.itoa x.val))) := by
  have hil := itoa_len hv
  refine Pure.intro Tryd.func88 rfl Tryd.ntmps88 rfl rfl (fun w => ?_)
  refine AC.seq ?_
  refine AC.region ?_
  refine AO.yld _ (Yld.assign rfl) rfl rfl rfl ?_
  refine AO.nil ?_
  refine AC.seq ?_
  refine AC.draw (by kernel_rfl) (by kernel_rfl) ?_
  refine AO.yld _ (Yld.move rfl) rfl rfl rfl ?_
  refine AO.yld _ (Yld.nilCheck rfl rfl) rfl rfl rfl ?_
  refine AO.yld _ (Yld.fieldAddr Tryd.underlying54 rfl rfl Tryd.sizeOf9 rfl rfl rfl) rfl rfl rfl ?_
  refine AO.yld _ (Yld.load Tryd.isAgg9 rfl rfl) rfl rfl rfl ?_
  refine AO.yld _ (Yld.cat rfl rfl (by first | (simp only [List.length_append, List.length_cons, List.length_nil]; omega) | omega)) rfl rfl rfl ?_
  refine AO.yld _ (Yld.move rfl) rfl rfl rfl ?_
  refine AO.yld _ (Yld.nilCheck rfl rfl) rfl rfl rfl ?_
  refine AO.yld _ (Yld.fieldAddr Tryd.underlying54 rfl rfl Tryd.sizeOf2 rfl rfl rfl) rfl rfl rfl ?_
  refine AO.yld _ (Yld.load Tryd.isAgg2 rfl rfl) rfl rfl rfl ?_
  refine AO.yld _ (Yld.call rfl rfl Tryd.call100 rfl rfl rfl (spec_l01Dec_c (by omega)) rfl) rfl rfl rfl ?_
  refine AO.yld _ (Yld.cat rfl rfl (by first | (simp only [List.length_append, List.length_cons, List.length_nil]; omega) | omega)) rfl rfl rfl ?_
  refine AO.yld _ (Yld.assign rfl) rfl rfl rfl ?_
  refine AO.nil ?_
  refine Pure.ret Tryd.results88 (RVs.cons (RV.tmp rfl) RVs.nil) rfl ?_
  rfl

theorem spec_MediaText_c {x : NV} (hs : x.name.length ≤ 1048576) :
    Pure Tryd.prog 26 [.agg (encNV x)] (.v (str (mediaText x))) := by
  refine Pure.intro Tryd.func26 rfl Tryd.ntmps26 rfl rfl (fun w => ?_)
  refine AC.seq ?_
  refine AC.region ?_
  refine AO.box 0 rfl rfl rfl rfl rfl ?_
  refine AO.yld _ (Yld.assign rfl) rfl rfl rfl ?_
  refine AO.nil ?_
  refine AC.seq ?_
  refine AC.seq ?_
  refine AC.region ?_
  refine AO.yld _ (Yld.call rfl rfl Tryd.call87 rfl rfl rfl (spec_l25One_c (by first | assumption | omega)) rfl) rfl rfl rfl ?_
  refine AO.yld _ (Yld.not rfl) rfl rfl rfl ?_
  refine AO.nil ?_
  refine AC.cond _ rfl (fun c4 => ?_) (fun c4 => ?_)
  · -- c4 True
    have hno : ¬ okMedia x = true := by simpa using c4
    refine AC.seq ?_
    refine AC.region ?_
    refine AO.yld _ (Yld.assign rfl) rfl rfl rfl ?_
    refine AO.nil ?_
    refine Pure.ret Tryd.results26 (RVs.cons (RV.tmp rfl) RVs.nil) rfl ?_
    first | (unfold mediaText; rw [if_pos hok]; first | done | rfl) | (unfold mediaText; rw [if_neg hno]; rfl)
  · -- c4 False
    have hok : okMedia x = true := by simpa using c4
    have hlm := media_name hok
    refine AC.skip ?_
    refine AC.seq ?_
    refine AC.region ?_
    refine AO.yld _ (Yld.call rfl rfl Tryd.call88 rfl rfl rfl (spec_l25Text_c (by omega) (by omega)) rfl) rfl rfl rfl ?_
    refine AO.yld _ (Yld.assign rfl) rfl rfl rfl ?_
    refine AO.nil ?_
    refine Pure.ret Tryd.results26 (RVs.cons (RV.tmp rfl) RVs.nil) rfl ?_
    first | (unfold mediaText; rw [if_pos hok]; first | done | rfl) | (unfold mediaText; rw [if_neg hno]; rfl)

theorem impl_MediaText_c {x : NV} (hs : x.name.length ≤ 1048576) :
    FnE (α := Unit) Tryd.prog 28 [.p (.agg (encNV x))] [(0, powR Tryd.prog)] [0] (fun _ => True) (fun _ => .p (.v (str (mediaText x)))) (fun _ => [(0, powR Tryd.prog)]) := by
  refine FnE.intro Tryd.func28 rfl Tryd.ntmps28 rfl rfl (fun w0 F0 η φ w => ?_)
  refine AC.seq ?_
  refine AC.region ?_
  refine AO.box 1 rfl rfl rfl rfl rfl ?_
  refine AO.yld _ (Yld.assign rfl) rfl rfl rfl ?_
  refine AO.nil ?_
  refine AC.seq ?_
  refine AC.seq ?_
  refine AC.region ?_
  refine AO.yld _ (Yld.loadAgg Tryd.isAgg54 Tryd.sizeOf54 rfl rfl rfl rfl) rfl rfl rfl ?_
  refine AO.yld _ (Yld.call rfl rfl Tryd.call89 rfl rfl rfl (impl_validFile_c (by first | assumption | omega)) rfl) rfl rfl rfl ?_
  refine AO.yld _ (Yld.not rfl) rfl rfl rfl ?_
  refine AO.nil ?_
  refine AC.cond _ rfl (fun c5 => ?_) (fun c5 => ?_)
  · -- c5 True
    have hno : ¬ okMedia x = true := by simpa using c5
    refine AC.seq ?_
    refine AC.region ?_
    refine AO.yld _ (Yld.assign rfl) rfl rfl rfl ?_
    refine AO.nil ?_
    refine FnE.ret () [0] [0] Tryd.results28 (RVs.cons (RV.tmp rfl) RVs.nil) rfl rfl rfl ?_ ?_ ⟨⟨_, rfl, ?_⟩, trivial⟩
    · -- holds
      trivial
    · -- value
      first | (unfold mediaText; rw [if_pos hok]; first | done | rfl) | (unfold mediaText; rw [if_neg hno]; rfl)
    · -- thing 0
      first | rfl | exact vecE (by first | rfl | (simp_all; done) | grind) | (simp_all; done)
  · -- c5 False
    have hok : okMedia x = true := by simpa using c5
    have hlm := media_name hok
    have hil := itoa_len (n := x.val) (by omega)
    refine AC.skip ?_
    refine AC.seq ?_
    apply AC.drawAnyC (α := Unit) [(0, _), (1, _), (3, _), (4, _), (5, _)] [(0, _), (1, _), (900, _)] (fun y => [(2, .p (.v (str (x.name ++ [32] ++ Lib.itoa x.val))))]) (fun y => []) (by kernel_rfl)
    · -- orders
      refine ANx.take 0 rfl (by kernel_rfl) (by kernel_rfl) (by kernel_rfl) rfl rfl rfl (YldA.fieldAddr Tryd.underlying54 rfl rfl Tryd.sizeOf9 rfl rfl rfl) ?_
      refine ANx.take 3 rfl (by kernel_rfl) (by kernel_rfl) (by kernel_rfl) rfl rfl rfl (YldA.fieldAddr Tryd.underlying54 rfl rfl Tryd.sizeOf2 rfl rfl rfl) ?_
      refine ANx.all (rs := [1, 4]) (by kernel_rfl) rfl ⟨?_, ?_, trivial⟩
      · -- 1
        refine Stpx.eff rfl rfl (Eff.yld (Yld.load Tryd.isAgg9 rfl rfl) rfl rfl) ?_
        refine ANx.all (rs := [2, 4]) (by kernel_rfl) rfl ⟨?_, ?_, trivial⟩
        · -- 2
          refine Stpx.eff rfl rfl (Eff.yld (Yld.cat rfl rfl (by first | (simp only [List.length_append, List.length_cons, List.length_nil]; omega) | omega)) rfl rfl) ?_
          refine ANx.all (rs := [4]) (by kernel_rfl) rfl ⟨?_, trivial⟩
          refine Stpx.eff rfl rfl (Eff.yld (Yld.load Tryd.isAgg2 rfl rfl) rfl rfl) ?_
          refine ANx.all (rs := [5]) (by kernel_rfl) rfl ⟨?_, trivial⟩
          refine Stpx.effX rfl rfl (EffX.callW [0] [0] [0] rfl rfl Tryd.call86 rfl (impl_Decimal_c (by omega) (by omega)) (.own rfl) rfl (fun _ => rfl) ⟨rfl, trivial⟩ rfl (fun _ => rfl) (fun _ => rfl)) ?_
          rintro _ ⟨⟨⟩, hu11, rfl⟩
          refine ANx.all (rs := [6]) (by kernel_rfl) rfl ⟨?_, trivial⟩
          refine Stpx.eff rfl rfl (Eff.yld (Yld.cat rfl rfl (by first | (simp only [List.length_append, List.length_cons, List.length_nil]; omega) | omega)) rfl rfl) ?_
          refine ANx.take 7 rfl (by kernel_rfl) (by kernel_rfl) (by kernel_rfl) rfl rfl rfl (YldA.assign rfl) ?_
          exact ANx.doneC () (by kernel_rfl) ⟨rfl, trivial⟩ trivial ⟨rfl, rfl, rfl, rfl, rfl, trivial⟩ ⟨rfl, rfl, rfl, trivial⟩
        · -- 4
          refine Stpx.eff rfl rfl (Eff.yld (Yld.load Tryd.isAgg2 rfl rfl) rfl rfl) ?_
          refine ANx.all (rs := [2, 5]) (by kernel_rfl) rfl ⟨?_, ?_, trivial⟩
          · -- 2
            refine Stpx.eff rfl rfl (Eff.yld (Yld.cat rfl rfl (by first | (simp only [List.length_append, List.length_cons, List.length_nil]; omega) | omega)) rfl rfl) ?_
            refine ANx.all (rs := [5]) (by kernel_rfl) rfl ⟨?_, trivial⟩
            refine Stpx.effX rfl rfl (EffX.callW [0] [0] [0] rfl rfl Tryd.call86 rfl (impl_Decimal_c (by omega) (by omega)) (.own rfl) rfl (fun _ => rfl) ⟨rfl, trivial⟩ rfl (fun _ => rfl) (fun _ => rfl)) ?_
            rintro _ ⟨⟨⟩, hu11, rfl⟩
            refine ANx.all (rs := [6]) (by kernel_rfl) rfl ⟨?_, trivial⟩
            refine Stpx.eff rfl rfl (Eff.yld (Yld.cat rfl rfl (by first | (simp only [List.length_append, List.length_cons, List.length_nil]; omega) | omega)) rfl rfl) ?_
            refine ANx.take 7 rfl (by kernel_rfl) (by kernel_rfl) (by kernel_rfl) rfl rfl rfl (YldA.assign rfl) ?_
            exact ANx.doneC () (by kernel_rfl) ⟨rfl, trivial⟩ trivial ⟨rfl, rfl, rfl, rfl, rfl, trivial⟩ ⟨rfl, rfl, rfl, trivial⟩
          · -- 5
            refine Stpx.effX rfl rfl (EffX.callW [0] [0] [0] rfl rfl Tryd.call86 rfl (impl_Decimal_c (by omega) (by omega)) (.own rfl) rfl (fun _ => rfl) ⟨rfl, trivial⟩ rfl (fun _ => rfl) (fun _ => rfl)) ?_
            rintro _ ⟨⟨⟩, hu11, rfl⟩
            refine ANx.all (rs := [2]) (by kernel_rfl) rfl ⟨?_, trivial⟩
            refine Stpx.eff rfl rfl (Eff.yld (Yld.cat rfl rfl (by first | (simp only [List.length_append, List.length_cons, List.length_nil]; omega) | omega)) rfl rfl) ?_
            refine ANx.all (rs := [6]) (by kernel_rfl) rfl ⟨?_, trivial⟩
            refine Stpx.eff rfl rfl (Eff.yld (Yld.cat rfl rfl (by first | (simp only [List.length_append, List.length_cons, List.length_nil]; omega) | omega)) rfl rfl) ?_
            refine ANx.take 7 rfl (by kernel_rfl) (by kernel_rfl) (by kernel_rfl) rfl rfl rfl (YldA.assign rfl) ?_
            exact ANx.doneC () (by kernel_rfl) ⟨rfl, trivial⟩ trivial ⟨rfl, rfl, rfl, rfl, rfl, trivial⟩ ⟨rfl, rfl, rfl, trivial⟩
      · -- 4
        refine Stpx.eff rfl rfl (Eff.yld (Yld.load Tryd.isAgg2 rfl rfl) rfl rfl) ?_
        refine ANx.all (rs := [1, 5]) (by kernel_rfl) rfl ⟨?_, ?_, trivial⟩
        · -- 1
          refine Stpx.eff rfl rfl (Eff.yld (Yld.load Tryd.isAgg9 rfl rfl) rfl rfl) ?_
          refine ANx.all (rs := [2, 5]) (by kernel_rfl) rfl ⟨?_, ?_, trivial⟩
          · -- 2
            refine Stpx.eff rfl rfl (Eff.yld (Yld.cat rfl rfl (by first | (simp only [List.length_append, List.length_cons, List.length_nil]; omega) | omega)) rfl rfl) ?_
            refine ANx.all (rs := [5]) (by kernel_rfl) rfl ⟨?_, trivial⟩
            refine Stpx.effX rfl rfl (EffX.callW [0] [0] [0] rfl rfl Tryd.call86 rfl (impl_Decimal_c (by omega) (by omega)) (.own rfl) rfl (fun _ => rfl) ⟨rfl, trivial⟩ rfl (fun _ => rfl) (fun _ => rfl)) ?_
            rintro _ ⟨⟨⟩, hu11, rfl⟩
            refine ANx.all (rs := [6]) (by kernel_rfl) rfl ⟨?_, trivial⟩
            refine Stpx.eff rfl rfl (Eff.yld (Yld.cat rfl rfl (by first | (simp only [List.length_append, List.length_cons, List.length_nil]; omega) | omega)) rfl rfl) ?_
            refine ANx.take 7 rfl (by kernel_rfl) (by kernel_rfl) (by kernel_rfl) rfl rfl rfl (YldA.assign rfl) ?_
            exact ANx.doneC () (by kernel_rfl) ⟨rfl, trivial⟩ trivial ⟨rfl, rfl, rfl, rfl, rfl, trivial⟩ ⟨rfl, rfl, rfl, trivial⟩
          · -- 5
            refine Stpx.effX rfl rfl (EffX.callW [0] [0] [0] rfl rfl Tryd.call86 rfl (impl_Decimal_c (by omega) (by omega)) (.own rfl) rfl (fun _ => rfl) ⟨rfl, trivial⟩ rfl (fun _ => rfl) (fun _ => rfl)) ?_
            rintro _ ⟨⟨⟩, hu11, rfl⟩
            refine ANx.all (rs := [2]) (by kernel_rfl) rfl ⟨?_, trivial⟩
            refine Stpx.eff rfl rfl (Eff.yld (Yld.cat rfl rfl (by first | (simp only [List.length_append, List.length_cons, List.length_nil]; omega) | omega)) rfl rfl) ?_
            refine ANx.all (rs := [6]) (by kernel_rfl) rfl ⟨?_, trivial⟩
            refine Stpx.eff rfl rfl (Eff.yld (Yld.cat rfl rfl (by first | (simp only [List.length_append, List.length_cons, List.length_nil]; omega) | omega)) rfl rfl) ?_
            refine ANx.take 7 rfl (by kernel_rfl) (by kernel_rfl) (by kernel_rfl) rfl rfl rfl (YldA.assign rfl) ?_
            exact ANx.doneC () (by kernel_rfl) ⟨rfl, trivial⟩ trivial ⟨rfl, rfl, rfl, rfl, rfl, trivial⟩ ⟨rfl, rfl, rfl, trivial⟩
        · -- 5
          refine Stpx.effX rfl rfl (EffX.callW [0] [0] [0] rfl rfl Tryd.call86 rfl (impl_Decimal_c (by omega) (by omega)) (.own rfl) rfl (fun _ => rfl) ⟨rfl, trivial⟩ rfl (fun _ => rfl) (fun _ => rfl)) ?_
          rintro _ ⟨⟨⟩, hu11, rfl⟩
          refine ANx.all (rs := [1]) (by kernel_rfl) rfl ⟨?_, trivial⟩
          refine Stpx.eff rfl rfl (Eff.yld (Yld.load Tryd.isAgg9 rfl rfl) rfl rfl) ?_
          refine ANx.all (rs := [2]) (by kernel_rfl) rfl ⟨?_, trivial⟩
          refine Stpx.eff rfl rfl (Eff.yld (Yld.cat rfl rfl (by first | (simp only [List.length_append, List.length_cons, List.length_nil]; omega) | omega)) rfl rfl) ?_
          refine ANx.all (rs := [6]) (by kernel_rfl) rfl ⟨?_, trivial⟩
          refine Stpx.eff rfl rfl (Eff.yld (Yld.cat rfl rfl (by first | (simp only [List.length_append, List.length_cons, List.length_nil]; omega) | omega)) rfl rfl) ?_
          refine ANx.take 7 rfl (by kernel_rfl) (by kernel_rfl) (by kernel_rfl) rfl rfl rfl (YldA.assign rfl) ?_
          exact ANx.doneC () (by kernel_rfl) ⟨rfl, trivial⟩ trivial ⟨rfl, rfl, rfl, rfl, rfl, trivial⟩ ⟨rfl, rfl, rfl, trivial⟩
    · -- behind
      rintro y
      refine FnE.ret () [0] [0] Tryd.results28 (RVs.cons (RV.tmp rfl) RVs.nil) rfl rfl rfl ?_ ?_ ⟨⟨_, rfl, ?_⟩, trivial⟩
      · -- holds
        trivial
      · -- value
        first | (unfold mediaText; rw [if_pos hok]; first | done | rfl) | (unfold mediaText; rw [if_neg hno]; rfl)
      · -- thing 0
        first | rfl | exact vecE (by first | rfl | (simp_all; done) | grind) | (simp_all; done)

theorem spec_l26Text_c {x : Mach} (hs : x.name.length ≤ 1048576) (hv : x.offset.natAbs < 1000000000000000000) (hv2 : x.delay.natAbs < 1000000000000000000) :
    Pure Tryd.prog 91 [.ptr (encMach x)] (.v (str (x.name ++ [32] ++ Lib.itoa x.offset ++ [32] ++ Lib.itoa x.delay))) := by
  have hil := itoa_len hv
  have hil2 := itoa_len hv2
  refine Pure.intro Tryd.func91 rfl Tryd.ntmps91 rfl rfl (fun w => ?_)
  refine AC.seq ?_
  refine AC.region ?_
  refine AO.yld _ (Yld.assign rfl) rfl rfl rfl ?_
  refine AO.nil ?_
  refine AC.seq ?_
  refine AC.draw (by kernel_rfl) (by kernel_rfl) ?_
  refine AO.yld _ (Yld.move rfl) rfl rfl rfl ?_
  refine AO.yld _ (Yld.nilCheck rfl rfl) rfl rfl rfl ?_
  refine AO.yld _ (Yld.fieldAddr Tryd.underlying33 rfl rfl Tryd.sizeOf9 rfl rfl rfl) rfl rfl rfl ?_
  refine AO.yld _ (Yld.load Tryd.isAgg9 rfl rfl) rfl rfl rfl ?_
  refine AO.yld _ (Yld.cat rfl rfl (by first | (simp only [List.length_append, List.length_cons, List.length_nil]; omega) | omega)) rfl rfl rfl ?_
  refine AO.yld _ (Yld.move rfl) rfl rfl rfl ?_
  refine AO.yld _ (Yld.nilCheck rfl rfl) rfl rfl rfl ?_
  refine AO.yld _ (Yld.fieldAddr Tryd.underlying33 rfl rfl Tryd.sizeOf2 rfl rfl rfl) rfl rfl rfl ?_
  refine AO.yld _ (Yld.load Tryd.isAgg2 rfl rfl) rfl rfl rfl ?_
  refine AO.yld _ (Yld.call rfl rfl Tryd.call100 rfl rfl rfl (spec_l01Dec_c (by omega)) rfl) rfl rfl rfl ?_
  refine AO.yld _ (Yld.cat rfl rfl (by first | (simp only [List.length_append, List.length_cons, List.length_nil]; omega) | omega)) rfl rfl rfl ?_
  refine AO.yld _ (Yld.cat rfl rfl (by first | (simp only [List.length_append, List.length_cons, List.length_nil]; omega) | omega)) rfl rfl rfl ?_
  refine AO.yld _ (Yld.move rfl) rfl rfl rfl ?_
  refine AO.yld _ (Yld.nilCheck rfl rfl) rfl rfl rfl ?_
  refine AO.yld _ (Yld.fieldAddr Tryd.underlying33 rfl rfl Tryd.sizeOf2 rfl rfl rfl) rfl rfl rfl ?_
  refine AO.yld _ (Yld.load Tryd.isAgg2 rfl rfl) rfl rfl rfl ?_
  refine AO.yld _ (Yld.call rfl rfl Tryd.call100 rfl rfl rfl (spec_l01Dec_c (by omega)) rfl) rfl rfl rfl ?_
  refine AO.yld _ (Yld.cat rfl rfl (by first | (simp only [List.length_append, List.length_cons, List.length_nil]; omega) | omega)) rfl rfl rfl ?_
  refine AO.yld _ (Yld.assign rfl) rfl rfl rfl ?_
  refine AO.nil ?_
  refine Pure.ret Tryd.results91 (RVs.cons (RV.tmp rfl) RVs.nil) rfl ?_
  rfl

theorem spec_MachineText_c {x : Mach} (hs : x.name.length ≤ 1048576) :
    Pure Tryd.prog 30 [.agg (encMach x)] (.v (str (machText x))) := by
  refine Pure.intro Tryd.func30 rfl Tryd.ntmps30 rfl rfl (fun w => ?_)
  refine AC.seq ?_
  refine AC.region ?_
  refine AO.box 0 rfl rfl rfl rfl rfl ?_
  refine AO.yld _ (Yld.assign rfl) rfl rfl rfl ?_
  refine AO.nil ?_
  refine AC.seq ?_
  refine AC.seq ?_
  refine AC.region ?_
  refine AO.yld _ (Yld.call rfl rfl Tryd.call90 rfl rfl rfl (spec_l26One_c (by first | assumption | omega)) rfl) rfl rfl rfl ?_
  refine AO.yld _ (Yld.not rfl) rfl rfl rfl ?_
  refine AO.nil ?_
  refine AC.cond _ rfl (fun c4 => ?_) (fun c4 => ?_)
  · -- c4 True
    have hno : ¬ okMachine x = true := by simpa using c4
    refine AC.seq ?_
    refine AC.region ?_
    refine AO.yld _ (Yld.assign rfl) rfl rfl rfl ?_
    refine AO.nil ?_
    refine Pure.ret Tryd.results30 (RVs.cons (RV.tmp rfl) RVs.nil) rfl ?_
    first | (unfold machText; rw [if_pos hok]; first | done | rfl) | (unfold machText; rw [if_neg hno]; rfl)
  · -- c4 False
    have hok : okMachine x = true := by simpa using c4
    have hlm := mach_lim hok
    refine AC.skip ?_
    refine AC.seq ?_
    refine AC.region ?_
    refine AO.yld _ (Yld.call rfl rfl Tryd.call91 rfl rfl rfl (spec_l26Text_c (by omega) (by omega) (by omega)) rfl) rfl rfl rfl ?_
    refine AO.yld _ (Yld.assign rfl) rfl rfl rfl ?_
    refine AO.nil ?_
    refine Pure.ret Tryd.results30 (RVs.cons (RV.tmp rfl) RVs.nil) rfl ?_
    first | (unfold machText; rw [if_pos hok]; first | done | rfl) | (unfold machText; rw [if_neg hno]; rfl)

theorem impl_MachineText_c {x : Mach} (hs : x.name.length ≤ 1048576) :
    FnE (α := Unit) Tryd.prog 24 [.p (.agg (encMach x))] [(0, powR Tryd.prog)] [0] (fun _ => True) (fun _ => .p (.v (str (machText x)))) (fun _ => [(0, powR Tryd.prog)]) := by
  refine FnE.intro Tryd.func24 rfl Tryd.ntmps24 rfl rfl (fun w0 F0 η φ w => ?_)
  refine AC.seq ?_
  refine AC.region ?_
  refine AO.box 1 rfl rfl rfl rfl rfl ?_
  refine AO.yld _ (Yld.assign rfl) rfl rfl rfl ?_
  refine AO.nil ?_
  refine AC.seq ?_
  refine AC.seq ?_
  refine AC.region ?_
  refine AO.yld _ (Yld.loadAgg Tryd.isAgg33 Tryd.sizeOf33 rfl rfl rfl rfl) rfl rfl rfl ?_
  refine AO.yld _ (Yld.call rfl rfl Tryd.call85 rfl rfl rfl (impl_validMachine_c (by first | assumption | omega)) rfl) rfl rfl rfl ?_
  refine AO.yld _ (Yld.not rfl) rfl rfl rfl ?_
  refine AO.nil ?_
  refine AC.cond _ rfl (fun c5 => ?_) (fun c5 => ?_)
  · -- c5 True
    have hno : ¬ okMachine x = true := by simpa using c5
    refine AC.seq ?_
    refine AC.region ?_
    refine AO.yld _ (Yld.assign rfl) rfl rfl rfl ?_
    refine AO.nil ?_
    refine FnE.ret () [0] [0] Tryd.results24 (RVs.cons (RV.tmp rfl) RVs.nil) rfl rfl rfl ?_ ?_ ⟨⟨_, rfl, ?_⟩, trivial⟩
    · -- holds
      trivial
    · -- value
      first | (unfold machText; rw [if_pos hok]; first | done | rfl) | (unfold machText; rw [if_neg hno]; rfl)
    · -- thing 0
      first | rfl | exact vecE (by first | rfl | (simp_all; done) | grind) | (simp_all; done)
  · -- c5 False
    have hok : okMachine x = true := by simpa using c5
    have hlm := mach_lim hok
    have hil := itoa_len (n := x.offset) (by omega)
    have hil2 := itoa_len (n := x.delay) (by omega)
    refine AC.skip ?_
    refine AC.seq ?_
    apply AC.drawAnyC (α := Unit) [(0, _), (1, _), (3, _), (4, _), (5, _)] [(0, _), (1, _), (900, _)] (fun y => [(2, .p (.v (str (x.name ++ [32] ++ Lib.itoa x.offset ++ [32] ++ Lib.itoa x.delay))))]) (fun y => []) (by kernel_rfl)
    · -- orders
      refine ANx.take 0 rfl (by kernel_rfl) (by kernel_rfl) (by kernel_rfl) rfl rfl rfl (YldA.fieldAddr Tryd.underlying33 rfl rfl Tryd.sizeOf9 rfl rfl rfl) ?_
      refine ANx.take 3 rfl (by kernel_rfl) (by kernel_rfl) (by kernel_rfl) rfl rfl rfl (YldA.fieldAddr Tryd.underlying33 rfl rfl Tryd.sizeOf2 rfl rfl rfl) ?_
      refine ANx.take 8 rfl (by kernel_rfl) (by kernel_rfl) (by kernel_rfl) rfl rfl rfl (YldA.fieldAddr Tryd.underlying33 rfl rfl Tryd.sizeOf2 rfl rfl rfl) ?_
      refine ANx.all (rs := [1, 4, 9]) (by kernel_rfl) rfl ⟨?_, ?_, ?_, trivial⟩
      · -- 1
        refine Stpx.eff rfl rfl (Eff.yld (Yld.load Tryd.isAgg9 rfl rfl) rfl rfl) ?_
        refine ANx.all (rs := [2, 4, 9]) (by kernel_rfl) rfl ⟨?_, ?_, ?_, trivial⟩
        · -- 2
          refine Stpx.eff rfl rfl (Eff.yld (Yld.cat rfl rfl (by first | (simp only [List.length_append, List.length_cons, List.length_nil]; omega) | omega)) rfl rfl) ?_
          refine ANx.all (rs := [4, 9]) (by kernel_rfl) rfl ⟨?_, ?_, trivial⟩
          · -- 4
            refine Stpx.eff rfl rfl (Eff.yld (Yld.load Tryd.isAgg2 rfl rfl) rfl rfl) ?_
            refine ANx.all (rs := [5, 9]) (by kernel_rfl) rfl ⟨?_, ?_, trivial⟩
            · -- 5
              refine Stpx.effX rfl rfl (EffX.callW [0] [0] [0] rfl rfl Tryd.call86 rfl (impl_Decimal_c (by omega) (by omega)) (.own rfl) rfl (fun _ => rfl) ⟨rfl, trivial⟩ rfl (fun _ => rfl) (fun _ => rfl)) ?_
              rintro _ ⟨⟨⟩, hu11, rfl⟩
              refine ANx.all (rs := [6, 9]) (by kernel_rfl) rfl ⟨?_, ?_, trivial⟩
              · -- 6
                refine Stpx.eff rfl rfl (Eff.yld (Yld.cat rfl rfl (by first | (simp only [List.length_append, List.length_cons, List.length_nil]; omega) | omega)) rfl rfl) ?_
                refine ANx.all (rs := [7, 9]) (by kernel_rfl) rfl ⟨?_, ?_, trivial⟩
                · -- 7
                  refine Stpx.eff rfl rfl (Eff.yld (Yld.cat rfl rfl (by first | (simp only [List.length_append, List.length_cons, List.length_nil]; omega) | omega)) rfl rfl) ?_
                  refine ANx.all (rs := [9]) (by kernel_rfl) rfl ⟨?_, trivial⟩
                  refine Stpx.eff rfl rfl (Eff.yld (Yld.load Tryd.isAgg2 rfl rfl) rfl rfl) ?_
                  refine ANx.all (rs := [10]) (by kernel_rfl) rfl ⟨?_, trivial⟩
                  refine Stpx.effX rfl rfl (EffX.callW [0] [0] [0] rfl rfl Tryd.call86 rfl (impl_Decimal_c (by omega) (by omega)) (.own rfl) rfl (fun _ => rfl) ⟨rfl, trivial⟩ rfl (fun _ => rfl) (fun _ => rfl)) ?_
                  rintro _ ⟨⟨⟩, hu16, rfl⟩
                  refine ANx.all (rs := [11]) (by kernel_rfl) rfl ⟨?_, trivial⟩
                  refine Stpx.eff rfl rfl (Eff.yld (Yld.cat rfl rfl (by first | (simp only [List.length_append, List.length_cons, List.length_nil]; omega) | omega)) rfl rfl) ?_
                  refine ANx.take 12 rfl (by kernel_rfl) (by kernel_rfl) (by kernel_rfl) rfl rfl rfl (YldA.assign rfl) ?_
                  exact ANx.doneC () (by kernel_rfl) ⟨rfl, trivial⟩ trivial ⟨rfl, rfl, rfl, rfl, rfl, trivial⟩ ⟨rfl, rfl, rfl, trivial⟩
                · -- 9
                  refine Stpx.eff rfl rfl (Eff.yld (Yld.load Tryd.isAgg2 rfl rfl) rfl rfl) ?_
                  refine ANx.all (rs := [7, 10]) (by kernel_rfl) rfl ⟨?_, ?_, trivial⟩
                  · -- 7
                    refine Stpx.eff rfl rfl (Eff.yld (Yld.cat rfl rfl (by first | (simp only [List.length_append, List.length_cons, List.length_nil]; omega) | omega)) rfl rfl) ?_
                    refine ANx.all (rs := [10]) (by kernel_rfl) rfl ⟨?_, trivial⟩
                    refine Stpx.effX rfl rfl (EffX.callW [0] [0] [0] rfl rfl Tryd.call86 rfl (impl_Decimal_c (by omega) (by omega)) (.own rfl) rfl (fun _ => rfl) ⟨rfl, trivial⟩ rfl (fun _ => rfl) (fun _ => rfl)) ?_
                    rintro _ ⟨⟨⟩, hu16, rfl⟩
                    refine ANx.all (rs := [11]) (by kernel_rfl) rfl ⟨?_, trivial⟩
                    refine Stpx.eff rfl rfl (Eff.yld (Yld.cat rfl rfl (by first | (simp only [List.length_append, List.length_cons, List.length_nil]; omega) | omega)) rfl rfl) ?_
                    refine ANx.take 12 rfl (by kernel_rfl) (by kernel_rfl) (by kernel_rfl) rfl rfl rfl (YldA.assign rfl) ?_
                    exact ANx.doneC () (by kernel_rfl) ⟨rfl, trivial⟩ trivial ⟨rfl, rfl, rfl, rfl, rfl, trivial⟩ ⟨rfl, rfl, rfl, trivial⟩
                  · -- 10
                    refine Stpx.effX rfl rfl (EffX.callW [0] [0] [0] rfl rfl Tryd.call86 rfl (impl_Decimal_c (by omega) (by omega)) (.own rfl) rfl (fun _ => rfl) ⟨rfl, trivial⟩ rfl (fun _ => rfl) (fun _ => rfl)) ?_
                    rintro _ ⟨⟨⟩, hu16, rfl⟩
                    refine ANx.all (rs := [7]) (by kernel_rfl) rfl ⟨?_, trivial⟩
                    refine Stpx.eff rfl rfl (Eff.yld (Yld.cat rfl rfl (by first | (simp only [List.length_append, List.length_cons, List.length_nil]; omega) | omega)) rfl rfl) ?_
                    refine ANx.all (rs := [11]) (by kernel_rfl) rfl ⟨?_, trivial⟩
                    refine Stpx.eff rfl rfl (Eff.yld (Yld.cat rfl rfl (by first | (simp only [List.length_append, List.length_cons, List.length_nil]; omega) | omega)) rfl rfl) ?_
                    refine ANx.take 12 rfl (by kernel_rfl) (by kernel_rfl) (by kernel_rfl) rfl rfl rfl (YldA.assign rfl) ?_
                    exact ANx.doneC () (by kernel_rfl) ⟨rfl, trivial⟩ trivial ⟨rfl, rfl, rfl, rfl, rfl, trivial⟩ ⟨rfl, rfl, rfl, trivial⟩
              · -- 9
                refine Stpx.eff rfl rfl (Eff.yld (Yld.load Tryd.isAgg2 rfl rfl) rfl rfl) ?_
                refine ANx.all (rs := [6, 10]) (by kernel_rfl) rfl ⟨?_, ?_, trivial⟩
                · -- 6
                  refine Stpx.eff rfl rfl (Eff.yld (Yld.cat rfl rfl (by first | (simp only [List.length_append, List.length_cons, List.length_nil]; omega) | omega)) rfl rfl) ?_
                  refine ANx.all (rs := [7, 10]) (by kernel_rfl) rfl ⟨?_, ?_, trivial⟩
                  · -- 7
                    refine Stpx.eff rfl rfl (Eff.yld (Yld.cat rfl rfl (by first | (simp only [List.length_append, List.length_cons, List.length_nil]; omega) | omega)) rfl rfl) ?_
                    refine ANx.all (rs := [10]) (by kernel_rfl) rfl ⟨?_, trivial⟩
                    refine Stpx.effX rfl rfl (EffX.callW [0] [0] [0] rfl rfl Tryd.call86 rfl (impl_Decimal_c (by omega) (by omega)) (.own rfl) rfl (fun _ => rfl) ⟨rfl, trivial⟩ rfl (fun _ => rfl) (fun _ => rfl)) ?_
                    rintro _ ⟨⟨⟩, hu16, rfl⟩
                    refine ANx.all (rs := [11]) (by kernel_rfl) rfl ⟨?_, trivial⟩
                    refine Stpx.eff rfl rfl (Eff.yld (Yld.cat rfl rfl (by first | (simp only [List.length_append, List.length_cons, List.length_nil]; omega) | omega)) rfl rfl) ?_
                    refine ANx.take 12 rfl (by kernel_rfl) (by kernel_rfl) (by kernel_rfl) rfl rfl rfl (YldA.assign rfl) ?_
                    exact ANx.doneC () (by kernel_rfl) ⟨rfl, trivial⟩ trivial ⟨rfl, rfl, rfl, rfl, rfl, trivial⟩ ⟨rfl, rfl, rfl, trivial⟩
                  · -- 10
                    refine Stpx.effX rfl rfl (EffX.callW [0] [0] [0] rfl rfl Tryd.call86 rfl (impl_Decimal_c (by omega) (by omega)) (.own rfl) rfl (fun _ => rfl) ⟨rfl, trivial⟩ rfl (fun _ => rfl) (fun _ => rfl)) ?_
                    rintro _ ⟨⟨⟩, hu16, rfl⟩
                    refine ANx.all (rs := [7]) (by kernel_rfl) rfl ⟨?_, trivial⟩
                    refine Stpx.eff rfl rfl (Eff.yld (Yld.cat rfl rfl (by first | (simp only [List.length_append, List.length_cons, List.length_nil]; omega) | omega)) rfl rfl) ?_
                    refine ANx.all (rs := [11]) (by kernel_rfl) rfl ⟨?_, trivial⟩
                    refine Stpx.eff rfl rfl (Eff.yld (Yld.cat rfl rfl (by first | (simp only [List.length_append, List.length_cons, List.length_nil]; omega) | omega)) rfl rfl) ?_
                    refine ANx.take 12 rfl (by kernel_rfl) (by kernel_rfl) (by kernel_rfl) rfl rfl rfl (YldA.assign rfl) ?_
                    exact ANx.doneC () (by kernel_rfl) ⟨rfl, trivial⟩ trivial ⟨rfl, rfl, rfl, rfl, rfl, trivial⟩ ⟨rfl, rfl, rfl, trivial⟩
                · -- 10
                  refine Stpx.effX rfl rfl (EffX.callW [0] [0] [0] rfl rfl Tryd.call86 rfl (impl_Decimal_c (by omega) (by omega)) (.own rfl) rfl (fun _ => rfl) ⟨rfl, trivial⟩ rfl (fun _ => rfl) (fun _ => rfl)) ?_
                  rintro _ ⟨⟨⟩, hu16, rfl⟩
                  refine ANx.all (rs := [6]) (by kernel_rfl) rfl ⟨?_, trivial⟩
                  refine Stpx.eff rfl rfl (Eff.yld (Yld.cat rfl rfl (by first | (simp only [List.length_append, List.length_cons, List.length_nil]; omega) | omega)) rfl rfl) ?_
                  refine ANx.all (rs := [7]) (by kernel_rfl) rfl ⟨?_, trivial⟩
                  refine Stpx.eff rfl rfl (Eff.yld (Yld.cat rfl rfl (by first | (simp only [List.length_append, List.length_cons, List.length_nil]; omega) | omega)) rfl rfl) ?_
                  refine ANx.all (rs := [11]) (by kernel_rfl) rfl ⟨?_, trivial⟩
                  refine Stpx.eff rfl rfl (Eff.yld (Yld.cat rfl rfl (by first | (simp only [List.length_append, List.length_cons, List.length_nil]; omega) | omega)) rfl rfl) ?_
                  refine ANx.take 12 rfl (by kernel_rfl) (by kernel_rfl) (by kernel_rfl) rfl rfl rfl (YldA.assign rfl) ?_
                  exact ANx.doneC () (by kernel_rfl) ⟨rfl, trivial⟩ trivial ⟨rfl, rfl, rfl, rfl, rfl, trivial⟩ ⟨rfl, rfl, rfl, trivial⟩
            · -- 9
              refine Stpx.eff rfl rfl (Eff.yld (Yld.load Tryd.isAgg2 rfl rfl) rfl rfl) ?_
              refine ANx.all (rs := [5]) (by kernel_rfl) rfl ⟨?_, trivial⟩
              refine Stpx.effX rfl rfl (EffX.callW [0] [0] [0] rfl rfl Tryd.call86 rfl (impl_Decimal_c (by omega) (by omega)) (.own rfl) rfl (fun _ => rfl) ⟨rfl, trivial⟩ rfl (fun _ => rfl) (fun _ => rfl)) ?_
              rintro _ ⟨⟨⟩, hu11, rfl⟩
              refine ANx.all (rs := [6, 10]) (by kernel_rfl) rfl ⟨?_, ?_, trivial⟩
              · -- 6
                refine Stpx.eff rfl rfl (Eff.yld (Yld.cat rfl rfl (by first | (simp only [List.length_append, List.length_cons, List.length_nil]; omega) | omega)) rfl rfl) ?_
                refine ANx.all (rs := [7, 10]) (by kernel_rfl) rfl ⟨?_, ?_, trivial⟩
                · -- 7
                  refine Stpx.eff rfl rfl (Eff.yld (Yld.cat rfl rfl (by first | (simp only [List.length_append, List.length_cons, List.length_nil]; omega) | omega)) rfl rfl) ?_
                  refine ANx.all (rs := [10]) (by kernel_rfl) rfl ⟨?_, trivial⟩
                  refine Stpx.effX rfl rfl (EffX.callW [0] [0] [0] rfl rfl Tryd.call86 rfl (impl_Decimal_c (by omega) (by omega)) (.own rfl) rfl (fun _ => rfl) ⟨rfl, trivial⟩ rfl (fun _ => rfl) (fun _ => rfl)) ?_
                  rintro _ ⟨⟨⟩, hu16, rfl⟩
                  refine ANx.all (rs := [11]) (by kernel_rfl) rfl ⟨?_, trivial⟩
                  refine Stpx.eff rfl rfl (Eff.yld (Yld.cat rfl rfl (by first | (simp only [List.length_append, List.length_cons, List.length_nil]; omega) | omega)) rfl rfl) ?_
                  refine ANx.take 12 rfl (by kernel_rfl) (by kernel_rfl) (by kernel_rfl) rfl rfl rfl (YldA.assign rfl) ?_
                  exact ANx.doneC () (by kernel_rfl) ⟨rfl, trivial⟩ trivial ⟨rfl, rfl, rfl, rfl, rfl, trivial⟩ ⟨rfl, rfl, rfl, trivial⟩
                · -- 10
                  refine Stpx.effX rfl rfl (EffX.callW [0] [0] [0] rfl rfl Tryd.call86 rfl (impl_Decimal_c (by omega) (by omega)) (.own rfl) rfl (fun _ => rfl) ⟨rfl, trivial⟩ rfl (fun _ => rfl) (fun _ => rfl)) ?_
                  rintro _ ⟨⟨⟩, hu16, rfl⟩
                  refine ANx.all (rs := [7]) (by kernel_rfl) rfl ⟨?_, trivial⟩
                  refine Stpx.eff rfl rfl (Eff.yld (Yld.cat rfl rfl (by first | (simp only [List.length_append, List.length_cons, List.length_nil]; omega) | omega)) rfl rfl) ?_
                  refine ANx.all (rs := [11]) (by kernel_rfl) rfl ⟨?_, trivial⟩
                  refine Stpx.eff rfl rfl (Eff.yld (Yld.cat rfl rfl (by first | (simp only [List.length_append, List.length_cons, List.length_nil]; omega) | omega)) rfl rfl) ?_
                  refine ANx.take 12 rfl (by kernel_rfl) (by kernel_rfl) (by kernel_rfl) rfl rfl rfl (YldA.assign rfl) ?_
                  exact ANx.doneC () (by kernel_rfl) ⟨rfl, trivial⟩ trivial ⟨rfl, rfl, rfl, rfl, rfl, trivial⟩ ⟨rfl, rfl, rfl, trivial⟩
              · -- 10
                refine Stpx.effX rfl rfl (EffX.callW [0] [0] [0] rfl rfl Tryd.call86 rfl (impl_Decimal_c (by omega) (by omega)) (.own rfl) rfl (fun _ => rfl) ⟨rfl, trivial⟩ rfl (fun _ => rfl) (fun _ => rfl)) ?_
                rintro _ ⟨⟨⟩, hu16, rfl⟩
                refine ANx.all (rs := [6]) (by kernel_rfl) rfl ⟨?_, trivial⟩
                refine Stpx.eff rfl rfl (Eff.yld (Yld.cat rfl rfl (by first | (simp only [List.length_append, List.length_cons, List.length_nil]; omega) | omega)) rfl rfl) ?_
                refine ANx.all (rs := [7]) (by kernel_rfl) rfl ⟨?_, trivial⟩
                refine Stpx.eff rfl rfl (Eff.yld (Yld.cat rfl rfl (by first | (simp only [List.length_append, List.length_cons, List.length_nil]; omega) | omega)) rfl rfl) ?_
                refine ANx.all (rs := [11]) (by kernel_rfl) rfl ⟨?_, trivial⟩
                refine Stpx.eff rfl rfl (Eff.yld (Yld.cat rfl rfl (by first | (simp only [List.length_append, List.length_cons, List.length_nil]; omega) | omega)) rfl rfl) ?_
                refine ANx.take 12 rfl (by kernel_rfl) (by kernel_rfl) (by kernel_rfl) rfl rfl rfl (YldA.assign rfl) ?_
                exact ANx.doneC () (by kernel_rfl) ⟨rfl, trivial⟩ trivial ⟨rfl, rfl, rfl, rfl, rfl, trivial⟩ ⟨rfl, rfl, rfl, trivial⟩
          · -- 9
            refine Stpx.eff rfl rfl (Eff.yld (Yld.load Tryd.isAgg2 rfl rfl) rfl rfl) ?_
            refine ANx.all (rs := [4]) (by kernel_rfl) rfl ⟨?_, trivial⟩
            refine Stpx.eff rfl rfl (Eff.yld (Yld.load Tryd.isAgg2 rfl rfl) rfl rfl) ?_
            refine ANx.all (rs := [5]) (by kernel_rfl) rfl ⟨?_, trivial⟩
            refine Stpx.effX rfl rfl (EffX.callW [0] [0] [0] rfl rfl Tryd.call86 rfl (impl_Decimal_c (by omega) (by omega)) (.own rfl) rfl (fun _ => rfl) ⟨rfl, trivial⟩ rfl (fun _ => rfl) (fun _ => rfl)) ?_
            rintro _ ⟨⟨⟩, hu11, rfl⟩
            refine ANx.all (rs := [6, 10]) (by kernel_rfl) rfl ⟨?_, ?_, trivial⟩
            · -- 6
              refine Stpx.eff rfl rfl (Eff.yld (Yld.cat rfl rfl (by first | (simp only [List.length_append, List.length_cons, List.length_nil]; omega) | omega)) rfl rfl) ?_
              refine ANx.all (rs := [7, 10]) (by kernel_rfl) rfl ⟨?_, ?_, trivial⟩
              · -- 7
                refine Stpx.eff rfl rfl (Eff.yld (Yld.cat rfl rfl (by first | (simp only [List.length_append, List.length_cons, List.length_nil]; omega) | omega)) rfl rfl) ?_
                refine ANx.all (rs := [10]) (by kernel_rfl) rfl ⟨?_, trivial⟩
                refine Stpx.effX rfl rfl (EffX.callW [0] [0] [0] rfl rfl Tryd.call86 rfl (impl_Decimal_c (by omega) (by omega)) (.own rfl) rfl (fun _ => rfl) ⟨rfl, trivial⟩ rfl (fun _ => rfl) (fun _ => rfl)) ?_
                rintro _ ⟨⟨⟩, hu16, rfl⟩
                refine ANx.all (rs := [11]) (by kernel_rfl) rfl ⟨?_, trivial⟩
                refine Stpx.eff rfl rfl (Eff.yld (Yld.cat rfl rfl (by first | (simp only [List.length_append, List.length_cons, List.length_nil]; omega) | omega)) rfl rfl) ?_
                refine ANx.take 12 rfl (by kernel_rfl) (by kernel_rfl) (by kernel_rfl) rfl rfl rfl (YldA.assign rfl) ?_
                exact ANx.doneC () (by kernel_rfl) ⟨rfl, trivial⟩ trivial ⟨rfl, rfl, rfl, rfl, rfl, trivial⟩ ⟨rfl, rfl, rfl, trivial⟩
              · -- 10
                refine Stpx.effX rfl rfl (EffX.callW [0] [0] [0] rfl rfl Tryd.call86 rfl (impl_Decimal_c (by omega) (by omega)) (.own rfl) rfl (fun _ => rfl) ⟨rfl, trivial⟩ rfl (fun _ => rfl) (fun _ => rfl)) ?_
                rintro _ ⟨⟨⟩, hu16, rfl⟩
                refine ANx.all (rs := [7]) (by kernel_rfl) rfl ⟨?_, trivial⟩
                refine Stpx.eff rfl rfl (Eff.yld (Yld.cat rfl rfl (by first | (simp only [List.length_append, List.length_cons, List.length_nil]; omega) | omega)) rfl rfl) ?_
                refine ANx.all (rs := [11]) (by kernel_rfl) rfl ⟨?_, trivial⟩
                refine Stpx.eff rfl rfl (Eff.yld (Yld.cat rfl rfl (by first | (simp only [List.length_append, List.length_cons, List.length_nil]; omega) | omega)) rfl rfl) ?_
                refine ANx.take 12 rfl (by kernel_rfl) (by kernel_rfl) (by kernel_rfl) rfl rfl rfl (YldA.assign rfl) ?_
                exact ANx.doneC () (by kernel_rfl) ⟨rfl, trivial⟩ trivial ⟨rfl, rfl, rfl, rfl, rfl, trivial⟩ ⟨rfl, rfl, rfl, trivial⟩
            · -- 10
              refine Stpx.effX rfl rfl (EffX.callW [0] [0] [0] rfl rfl Tryd.call86 rfl (impl_Decimal_c (by omega) (by omega)) (.own rfl) rfl (fun _ => rfl) ⟨rfl, trivial⟩ rfl (fun _ => rfl) (fun _ => rfl)) ?_
              rintro _ ⟨⟨⟩, hu16, rfl⟩
              refine ANx.all (rs := [6]) (by kernel_rfl) rfl ⟨?_, trivial⟩
              refine Stpx.eff rfl rfl (Eff.yld (Yld.cat rfl rfl (by first | (simp only [List.length_append, List.length_cons, List.length_nil]; omega) | omega)) rfl rfl) ?_
              refine ANx.all (rs := [7]) (by kernel_rfl) rfl ⟨?_, trivial⟩
              refine Stpx.eff rfl rfl (Eff.yld (Yld.cat rfl rfl (by first | (simp only [List.length_append, List.length_cons, List.length_nil]; omega) | omega)) rfl rfl) ?_
              refine ANx.all (rs := [11]) (by kernel_rfl) rfl ⟨?_, trivial⟩
              refine Stpx.eff rfl rfl (Eff.yld (Yld.cat rfl rfl (by first | (simp only [List.length_append, List.length_cons, List.length_nil]; omega) | omega)) rfl rfl) ?_
              refine ANx.take 12 rfl (by kernel_rfl) (by kernel_rfl) (by kernel_rfl) rfl rfl rfl (YldA.assign rfl) ?_
              exact ANx.doneC () (by kernel_rfl) ⟨rfl, trivial⟩ trivial ⟨rfl, rfl, rfl, rfl, rfl, trivial⟩ ⟨rfl, rfl, rfl, trivial⟩
        · -- 4
          refine Stpx.eff rfl rfl (Eff.yld (Yld.load Tryd.isAgg2 rfl rfl) rfl rfl) ?_
          refine ANx.all (rs := [2, 5, 9]) (by kernel_rfl) rfl ⟨?_, ?_, ?_, trivial⟩
          · -- 2
            refine Stpx.eff rfl rfl (Eff.yld (Yld.cat rfl rfl (by first | (simp only [List.length_append, List.length_cons, List.length_nil]; omega) | omega)) rfl rfl) ?_
            refine ANx.all (rs := [5, 9]) (by kernel_rfl) rfl ⟨?_, ?_, trivial⟩
            · -- 5
              refine Stpx.effX rfl rfl (EffX.callW [0] [0] [0] rfl rfl Tryd.call86 rfl (impl_Decimal_c (by omega) (by omega)) (.own rfl) rfl (fun _ => rfl) ⟨rfl, trivial⟩ rfl (fun _ => rfl) (fun _ => rfl)) ?_
              rintro _ ⟨⟨⟩, hu11, rfl⟩
              refine ANx.all (rs := [6, 9]) (by kernel_rfl) rfl ⟨?_, ?_, trivial⟩
              · -- 6
                refine Stpx.eff rfl rfl (Eff.yld (Yld.cat rfl rfl (by first | (simp only [List.length_append, List.length_cons, List.length_nil]; omega) | omega)) rfl rfl) ?_
                refine ANx.all (rs := [7, 9]) (by kernel_rfl) rfl ⟨?_, ?_, trivial⟩
                · -- 7
                  refine Stpx.eff rfl rfl (Eff.yld (Yld.cat rfl rfl (by first | (simp only [List.length_append, List.length_cons, List.length_nil]; omega) | omega)) rfl rfl) ?_
                  refine ANx.all (rs := [9]) (by kernel_rfl) rfl ⟨?_, trivial⟩
                  refine Stpx.eff rfl rfl (Eff.yld (Yld.load Tryd.isAgg2 rfl rfl) rfl rfl) ?_
                  refine ANx.all (rs := [10]) (by kernel_rfl) rfl ⟨?_, trivial⟩
                  refine Stpx.effX rfl rfl (EffX.callW [0] [0] [0] rfl rfl Tryd.call86 rfl (impl_Decimal_c (by omega) (by omega)) (.own rfl) rfl (fun _ => rfl) ⟨rfl, trivial⟩ rfl (fun _ => rfl) (fun _ => rfl)) ?_
                  rintro _ ⟨⟨⟩, hu16, rfl⟩
                  refine ANx.all (rs := [11]) (by kernel_rfl) rfl ⟨?_, trivial⟩
                  refine Stpx.eff rfl rfl (Eff.yld (Yld.cat rfl rfl (by first | (simp only [List.length_append, List.length_cons, List.length_nil]; omega) | omega)) rfl rfl) ?_
                  refine ANx.take 12 rfl (by kernel_rfl) (by kernel_rfl) (by kernel_rfl) rfl rfl rfl (YldA.assign rfl) ?_
                  exact ANx.doneC () (by kernel_rfl) ⟨rfl, trivial⟩ trivial ⟨rfl, rfl, rfl, rfl, rfl, trivial⟩ ⟨rfl, rfl, rfl, trivial⟩
                · -- 9
                  refine Stpx.eff rfl rfl (Eff.yld (Yld.load Tryd.isAgg2 rfl rfl) rfl rfl) ?_
                  refine ANx.all (rs := [7, 10]) (by kernel_rfl) rfl ⟨?_, ?_, trivial⟩
                  · -- 7
                    refine Stpx.eff rfl rfl (Eff.yld (Yld.cat rfl rfl (by first | (simp only [List.length_append, List.length_cons, List.length_nil]; omega) | omega)) rfl rfl) ?_
                    refine ANx.all (rs := [10]) (by kernel_rfl) rfl ⟨?_, trivial⟩
                    refine Stpx.effX rfl rfl (EffX.callW [0] [0] [0] rfl rfl Tryd.call86 rfl (impl_Decimal_c (by omega) (by omega)) (.own rfl) rfl (fun _ => rfl) ⟨rfl, trivial⟩ rfl (fun _ => rfl) (fun _ => rfl)) ?_
                    rintro _ ⟨⟨⟩, hu16, rfl⟩
                    refine ANx.all (rs := [11]) (by kernel_rfl) rfl ⟨?_, trivial⟩
                    refine Stpx.eff rfl rfl (Eff.yld (Yld.cat rfl rfl (by first | (simp only [List.length_append, List.length_cons, List.length_nil]; omega) | omega)) rfl rfl) ?_
                    refine ANx.take 12 rfl (by kernel_rfl) (by kernel_rfl) (by kernel_rfl) rfl rfl rfl (YldA.assign rfl) ?_
                    exact ANx.doneC () (by kernel_rfl) ⟨rfl, trivial⟩ trivial ⟨rfl, rfl, rfl, rfl, rfl, trivial⟩ ⟨rfl, rfl, rfl, trivial⟩
                  · -- 10
                    refine Stpx.effX rfl rfl (EffX.callW [0] [0] [0] rfl rfl Tryd.call86 rfl (impl_Decimal_c (by omega) (by omega)) (.own rfl) rfl (fun _ => rfl) ⟨rfl, trivial⟩ rfl (fun _ => rfl) (fun _ => rfl)) ?_
                    rintro _ ⟨⟨⟩, hu16, rfl⟩
                    refine ANx.all (rs := [7]) (by kernel_rfl) rfl ⟨?_, trivial⟩
                    refine Stpx.eff rfl rfl (Eff.yld (Yld.cat rfl rfl (by first | (simp only [List.length_append, List.length_cons, List.length_nil]; omega) | omega)) rfl rfl) ?_
                    refine ANx.all (rs := [11]) (by kernel_rfl) rfl ⟨?_, trivial⟩
                    refine Stpx.eff rfl rfl (Eff.yld (Yld.cat rfl rfl (by first | (simp only [List.length_append, List.length_cons, List.length_nil]; omega) | omega)) rfl rfl) ?_
                    refine ANx.take 12 rfl (by kernel_rfl) (by kernel_rfl) (by kernel_rfl) rfl rfl rfl (YldA.assign rfl) ?_
                    exact ANx.doneC () (by kernel_rfl) ⟨rfl, trivial⟩ trivial ⟨rfl, rfl, rfl, rfl, rfl, trivial⟩ ⟨rfl, rfl, rfl, trivial⟩
              · -- 9
                refine Stpx.eff rfl rfl (Eff.yld (Yld.load Tryd.isAgg2 rfl rfl) rfl rfl) ?_
                refine ANx.all (rs := [6, 10]) (by kernel_rfl) rfl ⟨?_, ?_, trivial⟩
                · -- 6
                  refine Stpx.eff rfl rfl (Eff.yld (Yld.cat rfl rfl (by first | (simp only [List.length_append, List.length_cons, List.length_nil]; omega) | omega)) rfl rfl) ?_
                  refine ANx.all (rs := [7, 10]) (by kernel_rfl) rfl ⟨?_, ?_, trivial⟩
                  · -- 7
                    refine Stpx.eff rfl rfl (Eff.yld (Yld.cat rfl rfl (by first | (simp only [List.length_append, List.length_cons, List.length_nil]; omega) | omega)) rfl rfl) ?_
                    refine ANx.all (rs := [10]) (by kernel_rfl) rfl ⟨?_, trivial⟩
                    refine Stpx.effX rfl rfl (EffX.callW [0] [0] [0] rfl rfl Tryd.call86 rfl (impl_Decimal_c (by omega) (by omega)) (.own rfl) rfl (fun _ => rfl) ⟨rfl, trivial⟩ rfl (fun _ => rfl) (fun _ => rfl)) ?_
                    rintro _ ⟨⟨⟩, hu16, rfl⟩
                    refine ANx.all (rs := [11]) (by kernel_rfl) rfl ⟨?_, trivial⟩
                    refine Stpx.eff rfl rfl (Eff.yld (Yld.cat rfl rfl (by first | (simp only [List.length_append, List.length_cons, List.length_nil]; omega) | omega)) rfl rfl) ?_
                    refine ANx.take 12 rfl (by kernel_rfl) (by kernel_rfl) (by kernel_rfl) rfl rfl rfl (YldA.assign rfl) ?_
                    exact ANx.doneC () (by kernel_rfl) ⟨rfl, trivial⟩ trivial ⟨rfl, rfl, rfl, rfl, rfl, trivial⟩ ⟨rfl, rfl, rfl, trivial⟩
                  · -- 10
                    refine Stpx.effX rfl rfl (EffX.callW [0] [0] [0] rfl rfl Tryd.call86 rfl (impl_Decimal_c (by omega) (by omega)) (.own rfl) rfl (fun _ => rfl) ⟨rfl, trivial⟩ rfl (fun _ => rfl) (fun _ => rfl)) ?_
                    rintro _ ⟨⟨⟩, hu16, rfl⟩
                    refine ANx.all (rs := [7]) (by kernel_rfl) rfl ⟨?_, trivial⟩
                    refine Stpx.eff rfl rfl (Eff.yld (Yld.cat rfl rfl (by first | (simp only [List.length_append, List.length_cons, List.length_nil]; omega) | omega)) rfl rfl) ?_
                    refine ANx.all (rs := [11]) (by kernel_rfl) rfl ⟨?_, trivial⟩
                    refine Stpx.eff rfl rfl (Eff.yld (Yld.cat rfl rfl (by first | (simp only [List.length_append, List.length_cons, List.length_nil]; omega) | omega)) rfl rfl) ?_
                    refine ANx.take 12 rfl (by kernel_rfl) (by kernel_rfl) (by kernel_rfl) rfl rfl rfl (YldA.assign rfl) ?_
                    exact ANx.doneC () (by kernel_rfl) ⟨rfl, trivial⟩ trivial ⟨rfl, rfl, rfl, rfl, rfl, trivial⟩ ⟨rfl, rfl, rfl, trivial⟩
                · -- 10
                  refine Stpx.effX rfl rfl (EffX.callW [0] [0] [0] rfl rfl Tryd.call86 rfl (impl_Decimal_c (by omega) (by omega)) (.own rfl) rfl (fun _ => rfl) ⟨rfl, trivial⟩ rfl (fun _ => rfl) (fun _ => rfl)) ?_
                  rintro _ ⟨⟨⟩, hu16, rfl⟩
                  refine ANx.all (rs := [6]) (by kernel_rfl) rfl ⟨?_, trivial⟩
                  refine Stpx.eff rfl rfl (Eff.yld (Yld.cat rfl rfl (by first | (simp only [List.length_append, List.length_cons, List.length_nil]; omega) | omega)) rfl rfl) ?_
                  refine ANx.all (rs := [7]) (by kernel_rfl) rfl ⟨?_, trivial⟩
                  refine Stpx.eff rfl rfl (Eff.yld (Yld.cat rfl rfl (by first | (simp only [List.length_append, List.length_cons, List.length_nil]; omega) | omega)) rfl rfl) ?_
                  refine ANx.all (rs := [11]) (by kernel_rfl) rfl ⟨?_, trivial⟩
                  refine Stpx.eff rfl rfl (Eff.yld (Yld.cat rfl rfl (by first | (simp only [List.length_append, List.length_cons, List.length_nil]; omega) | omega)) rfl rfl) ?_
                  refine ANx.take 12 rfl (by kernel_rfl) (by kernel_rfl) (by kernel_rfl) rfl rfl rfl (YldA.assign rfl) ?_
                  exact ANx.doneC () (by kernel_rfl) ⟨rfl, trivial⟩ trivial ⟨rfl, rfl, rfl, rfl, rfl, trivial⟩ ⟨rfl, rfl, rfl, trivial⟩
            · -- 9
              refine Stpx.eff rfl rfl (Eff.yld (Yld.load Tryd.isAgg2 rfl rfl) rfl rfl) ?_
              refine ANx.all (rs := [5]) (by kernel_rfl) rfl ⟨?_, trivial⟩
              refine Stpx.effX rfl rfl (EffX.callW [0] [0] [0] rfl rfl Tryd.call86 rfl (impl_Decimal_c (by omega) (by omega)) (.own rfl) rfl (fun _ => rfl) ⟨rfl, trivial⟩ rfl (fun _ => rfl) (fun _ => rfl)) ?_
              rintro _ ⟨⟨⟩, hu11, rfl⟩
              refine ANx.all (rs := [6, 10]) (by kernel_rfl) rfl ⟨?_, ?_, trivial⟩
              · -- 6
                refine Stpx.eff rfl rfl (Eff.yld (Yld.cat rfl rfl (by first | (simp only [List.length_append, List.length_cons, List.length_nil]; omega) | omega)) rfl rfl) ?_
                refine ANx.all (rs := [7, 10]) (by kernel_rfl) rfl ⟨?_, ?_, trivial⟩
                · -- 7
                  refine Stpx.eff rfl rfl (Eff.yld (Yld.cat rfl rfl (by first | (simp only [List.length_append, List.length_cons, List.length_nil]; omega) | omega)) rfl rfl) ?_
                  refine ANx.all (rs := [10]) (by kernel_rfl) rfl ⟨?_, trivial⟩
                  refine Stpx.effX rfl rfl (EffX.callW [0] [0] [0] rfl rfl Tryd.call86 rfl (impl_Decimal_c (by omega) (by omega)) (.own rfl) rfl (fun _ => rfl) ⟨rfl, trivial⟩ rfl (fun _ => rfl) (fun _ => rfl)) ?_
                  rintro _ ⟨⟨⟩, hu16, rfl⟩
                  refine ANx.all (rs := [11]) (by kernel_rfl) rfl ⟨?_, trivial⟩
                  refine Stpx.eff rfl rfl (Eff.yld (Yld.cat rfl rfl (by first | (simp only [List.length_append, List.length_cons, List.length_nil]; omega) | omega)) rfl rfl) ?_
                  refine ANx.take 12 rfl (by kernel_rfl) (by kernel_rfl) (by kernel_rfl) rfl rfl rfl (YldA.assign rfl) ?_
                  exact ANx.doneC () (by kernel_rfl) ⟨rfl, trivial⟩ trivial ⟨rfl, rfl, rfl, rfl, rfl, trivial⟩ ⟨rfl, rfl, rfl, trivial⟩
                · -- 10
                  refine Stpx.effX rfl rfl (EffX.callW [0] [0] [0] rfl rfl Tryd.call86 rfl (impl_Decimal_c (by omega) (by omega)) (.own rfl) rfl (fun _ => rfl) ⟨rfl, trivial⟩ rfl (fun _ => rfl) (fun _ => rfl)) ?_
                  rintro _ ⟨⟨⟩, hu16, rfl⟩
                  refine ANx.all (rs := [7]) (by kernel_rfl) rfl ⟨?_, trivial⟩
                  refine Stpx.eff rfl rfl (Eff.yld (Yld.cat rfl rfl (by first | (simp only [List.length_append, List.length_cons, List.length_nil]; omega) | omega)) rfl rfl) ?_
                  refine ANx.all (rs := [11]) (by kernel_rfl) rfl ⟨?_, trivial⟩
                  refine Stpx.eff rfl rfl (Eff.yld (Yld.cat rfl rfl (by first | (simp only [List.length_append, List.length_cons, List.length_nil]; omega) | omega)) rfl rfl) ?_
                  refine ANx.take 12 rfl (by kernel_rfl) (by kernel_rfl) (by kernel_rfl) rfl rfl rfl (YldA.assign rfl) ?_
                  exact ANx.doneC () (by kernel_rfl) ⟨rfl, trivial⟩ trivial ⟨rfl, rfl, rfl, rfl, rfl, trivial⟩ ⟨rfl, rfl, rfl, trivial⟩
              · -- 10
                refine Stpx.effX rfl rfl (EffX.callW [0] [0] [0] rfl rfl Tryd.call86 rfl (impl_Decimal_c (by omega) (by omega)) (.own rfl) rfl (fun _ => rfl) ⟨rfl, trivial⟩ rfl (fun _ => rfl) (fun _ => rfl)) ?_
                rintro _ ⟨⟨⟩, hu16, rfl⟩
                refine ANx.all (rs := [6]) (by kernel_rfl) rfl ⟨?_, trivial⟩
                refine Stpx.eff rfl rfl (Eff.yld (Yld.cat rfl rfl (by first | (simp only [List.length_append, List.length_cons, List.length_nil]; omega) | omega)) rfl rfl) ?_
                refine ANx.all (rs := [7]) (by kernel_rfl) rfl ⟨?_, trivial⟩
                refine Stpx.eff rfl rfl (Eff.yld (Yld.cat rfl rfl (by first | (simp only [List.length_append, List.length_cons, List.length_nil]; omega) | omega)) rfl rfl) ?_
                refine ANx.all (rs := [11]) (by kernel_rfl) rfl ⟨?_, trivial⟩
                refine Stpx.eff rfl rfl (Eff.yld (Yld.cat rfl rfl (by first | (simp only [List.length_append, List.length_cons, List.length_nil]; omega) | omega)) rfl rfl) ?_
                refine ANx.take 12 rfl (by kernel_rfl) (by kernel_rfl) (by kernel_rfl) rfl rfl rfl (YldA.assign rfl) ?_
                exact ANx.doneC () (by kernel_rfl) ⟨rfl, trivial⟩ trivial ⟨rfl, rfl, rfl, rfl, rfl, trivial⟩ ⟨rfl, rfl, rfl, trivial⟩
          · -- 5
            refine Stpx.effX rfl rfl (EffX.callW [0] [0] [0] rfl rfl Tryd.call86 rfl (impl_Decimal_c (by omega) (by omega)) (.own rfl) rfl (fun _ => rfl) ⟨rfl, trivial⟩ rfl (fun _ => rfl) (fun _ => rfl)) ?_
            rintro _ ⟨⟨⟩, hu11, rfl⟩
            refine ANx.all (rs := [2, 9]) (by kernel_rfl) rfl ⟨?_, ?_, trivial⟩
            · -- 2
              refine Stpx.eff rfl rfl (Eff.yld (Yld.cat rfl rfl (by first | (simp only [List.length_append, List.length_cons, List.length_nil]; omega) | omega)) rfl rfl) ?_
              refine ANx.all (rs := [6, 9]) (by kernel_rfl) rfl ⟨?_, ?_, trivial⟩
              · -- 6
                refine Stpx.eff rfl rfl (Eff.yld (Yld.cat rfl rfl (by first | (simp only [List.length_append, List.length_cons, List.length_nil]; omega) | omega)) rfl rfl) ?_
                refine ANx.all (rs := [7, 9]) (by kernel_rfl) rfl ⟨?_, ?_, trivial⟩
                · -- 7
                  refine Stpx.eff rfl rfl (Eff.yld (Yld.cat rfl rfl (by first | (simp only [List.length_append, List.length_cons, List.length_nil]; omega) | omega)) rfl rfl) ?_
                  refine ANx.all (rs := [9]) (by kernel_rfl) rfl ⟨?_, trivial⟩
                  refine Stpx.eff rfl rfl (Eff.yld (Yld.load Tryd.isAgg2 rfl rfl) rfl rfl) ?_
                  refine ANx.all (rs := [10]) (by kernel_rfl) rfl ⟨?_, trivial⟩
                  refine Stpx.effX rfl rfl (EffX.callW [0] [0] [0] rfl rfl Tryd.call86 rfl (impl_Decimal_c (by omega) (by omega)) (.own rfl) rfl (fun _ => rfl) ⟨rfl, trivial⟩ rfl (fun _ => rfl) (fun _ => rfl)) ?_
                  rintro _ ⟨⟨⟩, hu16, rfl⟩
                  refine ANx.all (rs := [11]) (by kernel_rfl) rfl ⟨?_, trivial⟩
                  refine Stpx.eff rfl rfl (Eff.yld (Yld.cat rfl rfl (by first | (simp only [List.length_append, List.length_cons, List.length_nil]; omega) | omega)) rfl rfl) ?_
                  refine ANx.take 12 rfl (by kernel_rfl) (by kernel_rfl) (by kernel_rfl) rfl rfl rfl (YldA.assign rfl) ?_
                  exact ANx.doneC () (by kernel_rfl) ⟨rfl, trivial⟩ trivial ⟨rfl, rfl, rfl, rfl, rfl, trivial⟩ ⟨rfl, rfl, rfl, trivial⟩
                · -- 9
                  refine Stpx.eff rfl rfl (Eff.yld (Yld.load Tryd.isAgg2 rfl rfl) rfl rfl) ?_
                  refine ANx.all (rs := [7, 10]) (by kernel_rfl) rfl ⟨?_, ?_, trivial⟩
                  · -- 7
                    refine Stpx.eff rfl rfl (Eff.yld (Yld.cat rfl rfl (by first | (simp only [List.length_append, List.length_cons, List.length_nil]; omega) | omega)) rfl rfl) ?_
                    refine ANx.all (rs := [10]) (by kernel_rfl) rfl ⟨?_, trivial⟩
                    refine Stpx.effX rfl rfl (EffX.callW [0] [0] [0] rfl rfl Tryd.call86 rfl (impl_Decimal_c (by omega) (by omega)) (.own rfl) rfl (fun _ => rfl) ⟨rfl, trivial⟩ rfl (fun _ => rfl) (fun _ => rfl)) ?_
                    rintro _ ⟨⟨⟩, hu16, rfl⟩
                    refine ANx.all (rs := [11]) (by kernel_rfl) rfl ⟨?_, trivial⟩
                    refine Stpx.eff rfl rfl (Eff.yld (Yld.cat rfl rfl (by first | (simp only [List.length_append, List.length_cons, List.length_nil]; omega) | omega)) rfl rfl) ?_
                    refine ANx.take 12 rfl (by kernel_rfl) (by kernel_rfl) (by kernel_rfl) rfl rfl rfl (YldA.assign rfl) ?_
                    exact ANx.doneC () (by kernel_rfl) ⟨rfl, trivial⟩ trivial ⟨rfl, rfl, rfl, rfl, rfl, trivial⟩ ⟨rfl, rfl, rfl, trivial⟩
                  · -- 10
                    refine Stpx.effX rfl rfl (EffX.callW [0] [0] [0] rfl rfl Tryd.call86 rfl (impl_Decimal_c (by omega) (by omega)) (.own rfl) rfl (fun _ => rfl) ⟨rfl, trivial⟩ rfl (fun _ => rfl) (fun _ => rfl)) ?_
                    rintro _ ⟨⟨⟩, hu16, rfl⟩
                    refine ANx.all (rs := [7]) (by kernel_rfl) rfl ⟨?_, trivial⟩
                    refine Stpx.eff rfl rfl (Eff.yld (Yld.cat rfl rfl (by first | (simp only [List.length_append, List.length_cons, List.length_nil]; omega) | omega)) rfl rfl) ?_
                    refine ANx.all (rs := [11]) (by kernel_rfl) rfl ⟨?_, trivial⟩
                    refine Stpx.eff rfl rfl (Eff.yld (Yld.cat rfl rfl (by first | (simp only [List.length_append, List.length_cons, List.length_nil]; omega) | omega)) rfl rfl) ?_
                    refine ANx.take 12 rfl (by kernel_rfl) (by kernel_rfl) (by kernel_rfl) rfl rfl rfl (YldA.assign rfl) ?_
                    exact ANx.doneC () (by kernel_rfl) ⟨rfl, trivial⟩ trivial ⟨rfl, rfl, rfl, rfl, rfl, trivial⟩ ⟨rfl, rfl, rfl, trivial⟩
              · -- 9
                refine Stpx.eff rfl rfl (Eff.yld (Yld.load Tryd.isAgg2 rfl rfl) rfl rfl) ?_
                refine ANx.all (rs := [6, 10]) (by kernel_rfl) rfl ⟨?_, ?_, trivial⟩
                · -- 6
                  refine Stpx.eff rfl rfl (Eff.yld (Yld.cat rfl rfl (by first | (simp only [List.length_append, List.length_cons, List.length_nil]; omega) | omega)) rfl rfl) ?_
                  refine ANx.all (rs := [7, 10]) (by kernel_rfl) rfl ⟨?_, ?_, trivial⟩
                  · -- 7
                    refine Stpx.eff rfl rfl (Eff.yld (Yld.cat rfl rfl (by first | (simp only [List.length_append, List.length_cons, List.length_nil]; omega) | omega)) rfl rfl) ?_
                    refine ANx.all (rs := [10]) (by kernel_rfl) rfl ⟨?_, trivial⟩
                    refine Stpx.effX rfl rfl (EffX.callW [0] [0] [0] rfl rfl Tryd.call86 rfl (impl_Decimal_c (by omega) (by omega)) (.own rfl) rfl (fun _ => rfl) ⟨rfl, trivial⟩ rfl (fun _ => rfl) (fun _ => rfl)) ?_
                    rintro _ ⟨⟨⟩, hu16, rfl⟩
                    refine ANx.all (rs := [11]) (by kernel_rfl) rfl ⟨?_, trivial⟩
                    refine Stpx.eff rfl rfl (Eff.yld (Yld.cat rfl rfl (by first | (simp only [List.length_append, List.length_cons, List.length_nil]; omega) | omega)) rfl rfl) ?_
                    refine ANx.take 12 rfl (by kernel_rfl) (by kernel_rfl) (by kernel_rfl) rfl rfl rfl (YldA.assign rfl) ?_
                    exact ANx.doneC () (by kernel_rfl) ⟨rfl, trivial⟩ trivial ⟨rfl, rfl, rfl, rfl, rfl, trivial⟩ ⟨rfl, rfl, rfl, trivial⟩
                  · -- 10
                    refine Stpx.effX rfl rfl (EffX.callW [0] [0] [0] rfl rfl Tryd.call86 rfl (impl_Decimal_c (by omega) (by omega)) (.own rfl) rfl (fun _ => rfl) ⟨rfl, trivial⟩ rfl (fun _ => rfl) (fun _ => rfl)) ?_
                    rintro _ ⟨⟨⟩, hu16, rfl⟩
                    refine ANx.all (rs := [7]) (by kernel_rfl) rfl ⟨?_, trivial⟩
                    refine Stpx.eff rfl rfl (Eff.yld (Yld.cat rfl rfl (by first | (simp only [List.length_append, List.length_cons, List.length_nil]; omega) | omega)) rfl rfl) ?_
                    refine ANx.all (rs := [11]) (by kernel_rfl) rfl ⟨?_, trivial⟩
                    refine Stpx.eff rfl rfl (Eff.yld (Yld.cat rfl rfl (by first | (simp only [List.length_append, List.length_cons, List.length_nil]; omega) | omega)) rfl rfl) ?_
                    refine ANx.take 12 rfl (by kernel_rfl) (by kernel_rfl) (by kernel_rfl) rfl rfl rfl (YldA.assign rfl) ?_
                    exact ANx.doneC () (by kernel_rfl) ⟨rfl, trivial⟩ trivial ⟨rfl, rfl, rfl, rfl, rfl, trivial⟩ ⟨rfl, rfl, rfl, trivial⟩
                · -- 10
                  refine Stpx.effX rfl rfl (EffX.callW [0] [0] [0] rfl rfl Tryd.call86 rfl (impl_Decimal_c (by omega) (by omega)) (.own rfl) rfl (fun _ => rfl) ⟨rfl, trivial⟩ rfl (fun _ => rfl) (fun _ => rfl)) ?_
                  rintro _ ⟨⟨⟩, hu16, rfl⟩
                  refine ANx.all (rs := [6]) (by kernel_rfl) rfl ⟨?_, trivial⟩
                  refine Stpx.eff rfl rfl (Eff.yld (Yld.cat rfl rfl (by first | (simp only [List.length_append, List.length_cons, List.length_nil]; omega) | omega)) rfl rfl) ?_
                  refine ANx.all (rs := [7]) (by kernel_rfl) rfl ⟨?_, trivial⟩
                  refine Stpx.eff rfl rfl (Eff.yld (Yld.cat rfl rfl (by first | (simp only [List.length_append, List.length_cons, List.length_nil]; omega) | omega)) rfl rfl) ?_
                  refine ANx.all (rs := [11]) (by kernel_rfl) rfl ⟨?_, trivial⟩
                  refine Stpx.eff rfl rfl (Eff.yld (Yld.cat rfl rfl (by first | (simp only [List.length_append, List.length_cons, List.length_nil]; omega) | omega)) rfl rfl) ?_
                  refine ANx.take 12 rfl (by kernel_rfl) (by kernel_rfl) (by kernel_rfl) rfl rfl rfl (YldA.assign rfl) ?_
                  exact ANx.doneC () (by kernel_rfl) ⟨rfl, trivial⟩ trivial ⟨rfl, rfl, rfl, rfl, rfl, trivial⟩ ⟨rfl, rfl, rfl, trivial⟩
            · -- 9
              refine Stpx.eff rfl rfl (Eff.yld (Yld.load Tryd.isAgg2 rfl rfl) rfl rfl) ?_
              refine ANx.all (rs := [2, 10]) (by kernel_rfl) rfl ⟨?_, ?_, trivial⟩
              · -- 2
                refine Stpx.eff rfl rfl (Eff.yld (Yld.cat rfl rfl (by first | (simp only [List.length_append, List.length_cons, List.length_nil]; omega) | omega)) rfl rfl) ?_
                refine ANx.all (rs := [6, 10]) (by kernel_rfl) rfl ⟨?_, ?_, trivial⟩
                · -- 6
                  refine Stpx.eff rfl rfl (Eff.yld (Yld.cat rfl rfl (by first | (simp only [List.length_append, List.length_cons, List.length_nil]; omega) | omega)) rfl rfl) ?_
                  refine ANx.all (rs := [7, 10]) (by kernel_rfl) rfl ⟨?_, ?_, trivial⟩
                  · -- 7
                    refine Stpx.eff rfl rfl (Eff.yld (Yld.cat rfl rfl (by first | (simp only [List.length_append, List.length_cons, List.length_nil]; omega) | omega)) rfl rfl) ?_
                    refine ANx.all (rs := [10]) (by kernel_rfl) rfl ⟨?_, trivial⟩
                    refine Stpx.effX rfl rfl (EffX.callW [0] [0] [0] rfl rfl Tryd.call86 rfl (impl_Decimal_c (by omega) (by omega)) (.own rfl) rfl (fun _ => rfl) ⟨rfl, trivial⟩ rfl (fun _ => rfl) (fun _ => rfl)) ?_
                    rintro _ ⟨⟨⟩, hu16, rfl⟩
                    refine ANx.all (rs := [11]) (by kernel_rfl) rfl ⟨?_, trivial⟩
                    refine Stpx.eff rfl rfl (Eff.yld (Yld.cat rfl rfl (by first | (simp only [List.length_append, List.length_cons, List.length_nil]; omega) | omega)) rfl rfl) ?_
                    refine ANx.take 12 rfl (by kernel_rfl) (by kernel_rfl) (by kernel_rfl) rfl rfl rfl (YldA.assign rfl) ?_
                    exact ANx.doneC () (by kernel_rfl) ⟨rfl, trivial⟩ trivial ⟨rfl, rfl, rfl, rfl, rfl, trivial⟩ ⟨rfl, rfl, rfl, trivial⟩
                  · -- 10
                    refine Stpx.effX rfl rfl (EffX.callW [0] [0] [0] rfl rfl Tryd.call86 rfl (impl_Decimal_c (by omega) (by omega)) (.own rfl) rfl (fun _ => rfl) ⟨rfl, trivial⟩ rfl (fun _ => rfl) (fun _ => rfl)) ?_
                    rintro _ ⟨⟨⟩, hu16, rfl⟩
                    refine ANx.all (rs := [7]) (by kernel_rfl) rfl ⟨?_, trivial⟩
                    refine Stpx.eff rfl rfl (Eff.yld (Yld.cat rfl rfl (by first | (simp only [List.length_append, List.length_cons, List.length_nil]; omega) | omega)) rfl rfl) ?_
                    refine ANx.all (rs := [11]) (by kernel_rfl) rfl ⟨?_, trivial⟩
                    refine Stpx.eff rfl rfl (Eff.yld (Yld.cat rfl rfl (by first | (simp only [List.length_append, List.length_cons, List.length_nil]; omega) | omega)) rfl rfl) ?_
                    refine ANx.take 12 rfl (by kernel_rfl) (by kernel_rfl) (by kernel_rfl) rfl rfl rfl (YldA.assign rfl) ?_
                    exact ANx.doneC () (by kernel_rfl) ⟨rfl, trivial⟩ trivial ⟨rfl, rfl, rfl, rfl, rfl, trivial⟩ ⟨rfl, rfl, rfl, trivial⟩
                · -- 10
                  refine Stpx.effX rfl rfl (EffX.callW [0] [0] [0] rfl rfl Tryd.call86 rfl (impl_Decimal_c (by omega) (by omega)) (.own rfl) rfl (fun _ => rfl) ⟨rfl, trivial⟩ rfl (fun _ => rfl) (fun _ => rfl)) ?_
                  rintro _ ⟨⟨⟩, hu16, rfl⟩
                  refine ANx.all (rs := [6]) (by kernel_rfl) rfl ⟨?_, trivial⟩
                  refine Stpx.eff rfl rfl (Eff.yld (Yld.cat rfl rfl (by first | (simp only [List.length_append, List.length_cons, List.length_nil]; omega) | omega)) rfl rfl) ?_
                  refine ANx.all (rs := [7]) (by kernel_rfl) rfl ⟨?_, trivial⟩
                  refine Stpx.eff rfl rfl (Eff.yld (Yld.cat rfl rfl (by first | (simp only [List.length_append, List.length_cons, List.length_nil]; omega) | omega)) rfl rfl) ?_
                  refine ANx.all (rs := [11]) (by kernel_rfl) rfl ⟨?_, trivial⟩
                  refine Stpx.eff rfl rfl (Eff.yld (Yld.cat rfl rfl (by first | (simp only [List.length_append, List.length_cons, List.length_nil]; omega) | omega)) rfl rfl) ?_
                  refine ANx.take 12 rfl (by kernel_rfl) (by kernel_rfl) (by kernel_rfl) rfl rfl rfl (YldA.assign rfl) ?_
                  exact ANx.doneC () (by kernel_rfl) ⟨rfl, trivial⟩ trivial ⟨rfl, rfl, rfl, rfl, rfl, trivial⟩ ⟨rfl, rfl, rfl, trivial⟩
              · -- 10
                refine Stpx.effX rfl rfl (EffX.callW [0] [0] [0] rfl rfl Tryd.call86 rfl (impl_Decimal_c (by omega) (by omega)) (.own rfl) rfl (fun _ => rfl) ⟨rfl, trivial⟩ rfl (fun _ => rfl) (fun _ => rfl)) ?_
                rintro _ ⟨⟨⟩, hu16, rfl⟩
                refine ANx.all (rs := [2]) (by kernel_rfl) rfl ⟨?_, trivial⟩
                refine Stpx.eff rfl rfl (Eff.yld (Yld.cat rfl rfl (by first | (simp only [List.length_append, List.length_cons, List.length_nil]; omega) | omega)) rfl rfl) ?_
                refine ANx.all (rs := [6]) (by kernel_rfl) rfl ⟨?_, trivial⟩
                refine Stpx.eff rfl rfl (Eff.yld (Yld.cat rfl rfl (by first | (simp only [List.length_append, List.length_cons, List.length_nil]; omega) | omega)) rfl rfl) ?_
                refine ANx.all (rs := [7]) (by kernel_rfl) rfl ⟨?_, trivial⟩
                refine Stpx.eff rfl rfl (Eff.yld (Yld.cat rfl rfl (by first | (simp only [List.length_append, List.length_cons, List.length_nil]; omega) | omega)) rfl rfl) ?_
                refine ANx.all (rs := [11]) (by kernel_rfl) rfl ⟨?_, trivial⟩
                refine Stpx.eff rfl rfl (Eff.yld (Yld.cat rfl rfl (by first | (simp only [List.length_append, List.length_cons, List.length_nil]; omega) | omega)) rfl rfl) ?_
                refine ANx.take 12 rfl (by kernel_rfl) (by kernel_rfl) (by kernel_rfl) rfl rfl rfl (YldA.assign rfl) ?_
                exact ANx.doneC () (by kernel_rfl) ⟨rfl, trivial⟩ trivial ⟨rfl, rfl, rfl, rfl, rfl, trivial⟩ ⟨rfl, rfl, rfl, trivial⟩
          · -- 9
            refine Stpx.eff rfl rfl (Eff.yld (Yld.load Tryd.isAgg2 rfl rfl) rfl rfl) ?_
            refine ANx.all (rs := [2, 5]) (by kernel_rfl) rfl ⟨?_, ?_, trivial⟩
            · -- 2
              refine Stpx.eff rfl rfl (Eff.yld (Yld.cat rfl rfl (by first | (simp only [List.length_append, List.length_cons, List.length_nil]; omega) | omega)) rfl rfl) ?_
              refine ANx.all (rs := [5]) (by kernel_rfl) rfl ⟨?_, trivial⟩
              refine Stpx.effX rfl rfl (EffX.callW [0] [0] [0] rfl rfl Tryd.call86 rfl (impl_Decimal_c (by omega) (by omega)) (.own rfl) rfl (fun _ => rfl) ⟨rfl, trivial⟩ rfl (fun _ => rfl) (fun _ => rfl)) ?_
              rintro _ ⟨⟨⟩, hu11, rfl⟩
              refine ANx.all (rs := [6, 10]) (by kernel_rfl) rfl ⟨?_, ?_, trivial⟩
              · -- 6
                refine Stpx.eff rfl rfl (Eff.yld (Yld.cat rfl rfl (by first | (simp only [List.length_append, List.length_cons, List.length_nil]; omega) | omega)) rfl rfl) ?_
                refine ANx.all (rs := [7, 10]) (by kernel_rfl) rfl ⟨?_, ?_, trivial⟩
                · -- 7
                  refine Stpx.eff rfl rfl (Eff.yld (Yld.cat rfl rfl (by first | (simp only [List.length_append, List.length_cons, List.length_nil]; omega) | omega)) rfl rfl) ?_
                  refine ANx.all (rs := [10]) (by kernel_rfl) rfl ⟨?_, trivial⟩
                  refine Stpx.effX rfl rfl (EffX.callW [0] [0] [0] rfl rfl Tryd.call86 rfl (impl_Decimal_c (by omega) (by omega)) (.own rfl) rfl (fun _ => rfl) ⟨rfl, trivial⟩ rfl (fun _ => rfl) (fun _ => rfl)) ?_
                  rintro _ ⟨⟨⟩, hu16, rfl⟩
                  refine ANx.all (rs := [11]) (by kernel_rfl) rfl ⟨?_, trivial⟩
                  refine Stpx.eff rfl rfl (Eff.yld (Yld.cat rfl rfl (by first | (simp only [List.length_append, List.length_cons, List.length_nil]; omega) | omega)) rfl rfl) ?_
                  refine ANx.take 12 rfl (by kernel_rfl) (by kernel_rfl) (by kernel_rfl) rfl rfl rfl (YldA.assign rfl) ?_
                  exact ANx.doneC () (by kernel_rfl) ⟨rfl, trivial⟩ trivial ⟨rfl, rfl, rfl, rfl, rfl, trivial⟩ ⟨rfl, rfl, rfl, trivial⟩
                · -- 10
                  refine Stpx.effX rfl rfl (EffX.callW [0] [0] [0] rfl rfl Tryd.call86 rfl (impl_Decimal_c (by omega) (by omega)) (.own rfl) rfl (fun _ => rfl) ⟨rfl, trivial⟩ rfl (fun _ => rfl) (fun _ => rfl)) ?_
                  rintro _ ⟨⟨⟩, hu16, rfl⟩
                  refine ANx.all (rs := [7]) (by kernel_rfl) rfl ⟨?_, trivial⟩
                  refine Stpx.eff rfl rfl (Eff.yld (Yld.cat rfl rfl (by first | (simp only [List.length_append, List.length_cons, List.length_nil]; omega) | omega)) rfl rfl) ?_
                  refine ANx.all (rs := [11]) (by kernel_rfl) rfl ⟨?_, trivial⟩
                  refine Stpx.eff rfl rfl (Eff.yld (Yld.cat rfl rfl (by first | (simp only [List.length_append, List.length_cons, List.length_nil]; omega) | omega)) rfl rfl) ?_
                  refine ANx.take 12 rfl (by kernel_rfl) (by kernel_rfl) (by kernel_rfl) rfl rfl rfl (YldA.assign rfl) ?_
                  exact ANx.doneC () (by kernel_rfl) ⟨rfl, trivial⟩ trivial ⟨rfl, rfl, rfl, rfl, rfl, trivial⟩ ⟨rfl, rfl, rfl, trivial⟩
              · -- 10
                refine Stpx.effX rfl rfl (EffX.callW [0] [0] [0] rfl rfl Tryd.call86 rfl (impl_Decimal_c (by omega) (by omega)) (.own rfl) rfl (fun _ => rfl) ⟨rfl, trivial⟩ rfl (fun _ => rfl) (fun _ => rfl)) ?_
                rintro _ ⟨⟨⟩, hu16, rfl⟩
                refine ANx.all (rs := [6]) (by kernel_rfl) rfl ⟨?_, trivial⟩
                refine Stpx.eff rfl rfl (Eff.yld (Yld.cat rfl rfl (by first | (simp only [List.length_append, List.length_cons, List.length_nil]; omega) | omega)) rfl rfl) ?_
                refine ANx.all (rs := [7]) (by kernel_rfl) rfl ⟨?_, trivial⟩
                refine Stpx.eff rfl rfl (Eff.yld (Yld.cat rfl rfl (by first | (simp only [List.length_append, List.length_cons, List.length_nil]; omega) | omega)) rfl rfl) ?_
                refine ANx.all (rs := [11]) (by kernel_rfl) rfl ⟨?_, trivial⟩
                refine Stpx.eff rfl rfl (Eff.yld (Yld.cat rfl rfl (by first | (simp only [List.length_append, List.length_cons, List.length_nil]; omega) | omega)) rfl rfl) ?_
                refine ANx.take 12 rfl (by kernel_rfl) (by kernel_rfl) (by kernel_rfl) rfl rfl rfl (YldA.assign rfl) ?_
                exact ANx.doneC () (by kernel_rfl) ⟨rfl, trivial⟩ trivial ⟨rfl, rfl, rfl, rfl, rfl, trivial⟩ ⟨rfl, rfl, rfl, trivial⟩
            · -- 5
              refine Stpx.effX rfl rfl (EffX.callW [0] [0] [0] rfl rfl Tryd.call86 rfl (impl_Decimal_c (by omega) (by omega)) (.own rfl) rfl (fun _ => rfl) ⟨rfl, trivial⟩ rfl (fun _ => rfl) (fun _ => rfl)) ?_
              rintro _ ⟨⟨⟩, hu11, rfl⟩
              refine ANx.all (rs := [2, 10]) (by kernel_rfl) rfl ⟨?_, ?_, trivial⟩
              · -- 2
                refine Stpx.eff rfl rfl (Eff.yld (Yld.cat rfl rfl (by first | (simp only [List.length_append, List.length_cons, List.length_nil]; omega) | omega)) rfl rfl) ?_
                refine ANx.all (rs := [6, 10]) (by kernel_rfl) rfl ⟨?_, ?_, trivial⟩
                · -- 6
                  refine Stpx.eff rfl rfl (Eff.yld (Yld.cat rfl rfl (by first | (simp only [List.length_append, List.length_cons, List.length_nil]; omega) | omega)) rfl rfl) ?_
                  refine ANx.all (rs := [7, 10]) (by kernel_rfl) rfl ⟨?_, ?_, trivial⟩
                  · -- 7
                    refine Stpx.eff rfl rfl (Eff.yld (Yld.cat rfl rfl (by first | (simp only [List.length_append, List.length_cons, List.length_nil]; omega) | omega)) rfl rfl) ?_
                    refine ANx.all (rs := [10]) (by kernel_rfl) rfl ⟨?_, trivial⟩
                    refine Stpx.effX rfl rfl (EffX.callW [0] [0] [0] rfl rfl Tryd.call86 rfl (impl_Decimal_c (by omega) (by omega)) (.own rfl) rfl (fun _ => rfl) ⟨rfl, trivial⟩ rfl (fun _ => rfl) (fun _ => rfl)) ?_
                    rintro _ ⟨⟨⟩, hu16, rfl⟩
                    refine ANx.all (rs := [11]) (by kernel_rfl) rfl ⟨?_, trivial⟩
                    refine Stpx.eff rfl rfl (Eff.yld (Yld.cat rfl rfl (by first | (simp only [List.length_append, List.length_cons, List.length_nil]; omega) | omega)) rfl rfl) ?_
                    refine ANx.take 12 rfl (by kernel_rfl) (by kernel_rfl) (by kernel_rfl) rfl rfl rfl (YldA.assign rfl) ?_
                    exact ANx.doneC () (by kernel_rfl) ⟨rfl, trivial⟩ trivial ⟨rfl, rfl, rfl, rfl, rfl, trivial⟩ ⟨rfl, rfl, rfl, trivial⟩
                  · -- 10
                    refine Stpx.effX rfl rfl (EffX.callW [0] [0] [0] rfl rfl Tryd.call86 rfl (impl_Decimal_c (by omega) (by omega)) (.own rfl) rfl (fun _ => rfl) ⟨rfl, trivial⟩ rfl (fun _ => rfl) (fun _ => rfl)) ?_
                    rintro _ ⟨⟨⟩, hu16, rfl⟩
                    refine ANx.all (rs := [7]) (by kernel_rfl) rfl ⟨?_, trivial⟩
                    refine Stpx.eff rfl rfl (Eff.yld (Yld.cat rfl rfl (by first | (simp only [List.length_append, List.length_cons, List.length_nil]; omega) | omega)) rfl rfl) ?_
                    refine ANx.all (rs := [11]) (by kernel_rfl) rfl ⟨?_, trivial⟩
                    refine Stpx.eff rfl rfl (Eff.yld (Yld.cat rfl rfl (by first | (simp only [List.length_append, List.length_cons, List.length_nil]; omega) | omega)) rfl rfl) ?_
                    refine ANx.take 12 rfl (by kernel_rfl) (by kernel_rfl) (by kernel_rfl) rfl rfl rfl (YldA.assign rfl) ?_
                    exact ANx.doneC () (by kernel_rfl) ⟨rfl, trivial⟩ trivial ⟨rfl, rfl, rfl, rfl, rfl, trivial⟩ ⟨rfl, rfl, rfl, trivial⟩
                · -- 10
                  refine Stpx.effX rfl rfl (EffX.callW [0] [0] [0] rfl rfl Tryd.call86 rfl (impl_Decimal_c (by omega) (by omega)) (.own rfl) rfl (fun _ => rfl) ⟨rfl, trivial⟩ rfl (fun _ => rfl) (fun _ => rfl)) ?_
                  rintro _ ⟨⟨⟩, hu16, rfl⟩
                  refine ANx.all (rs := [6]) (by kernel_rfl) rfl ⟨?_, trivial⟩
                  refine Stpx.eff rfl rfl (Eff.yld (Yld.cat rfl rfl (by first | (simp only [List.length_append, List.length_cons, List.length_nil]; omega) | omega)) rfl rfl) ?_
                  refine ANx.all (rs := [7]) (by kernel_rfl) rfl ⟨?_, trivial⟩
                  refine Stpx.eff rfl rfl (Eff.yld (Yld.cat rfl rfl (by first | (simp only [List.length_append, List.length_cons, List.length_nil]; omega) | omega)) rfl rfl) ?_
                  refine ANx.all (rs := [11]) (by kernel_rfl) rfl ⟨?_, trivial⟩
                  refine Stpx.eff rfl rfl (Eff.yld (Yld.cat rfl rfl (by first | (simp only [List.length_append, List.length_cons, List.length_nil]; omega) | omega)) rfl rfl) ?_
                  refine ANx.take 12 rfl (by kernel_rfl) (by kernel_rfl) (by kernel_rfl) rfl rfl rfl (YldA.assign rfl) ?_
                  exact ANx.doneC () (by kernel_rfl) ⟨rfl, trivial⟩ trivial ⟨rfl, rfl, rfl, rfl, rfl, trivial⟩ ⟨rfl, rfl, rfl, trivial⟩
              · -- 10
                refine Stpx.effX rfl rfl (EffX.callW [0] [0] [0] rfl rfl Tryd.call86 rfl (impl_Decimal_c (by omega) (by omega)) (.own rfl) rfl (fun _ => rfl) ⟨rfl, trivial⟩ rfl (fun _ => rfl) (fun _ => rfl)) ?_
                rintro _ ⟨⟨⟩, hu16, rfl⟩
                refine ANx.all (rs := [2]) (by kernel_rfl) rfl ⟨?_, trivial⟩
                refine Stpx.eff rfl rfl (Eff.yld (Yld.cat rfl rfl (by first | (simp only [List.length_append, List.length_cons, List.length_nil]; omega) | omega)) rfl rfl) ?_
                refine ANx.all (rs := [6]) (by kernel_rfl) rfl ⟨?_, trivial⟩
                refine Stpx.eff rfl rfl (Eff.yld (Yld.cat rfl rfl (by first | (simp only [List.length_append, List.length_cons, List.length_nil]; omega) | omega)) rfl rfl) ?_
                refine ANx.all (rs := [7]) (by kernel_rfl) rfl ⟨?_, trivial⟩
                refine Stpx.eff rfl rfl (Eff.yld (Yld.cat rfl rfl (by first | (simp only [List.length_append, List.length_cons, List.length_nil]; omega) | omega)) rfl rfl) ?_
                refine ANx.all (rs := [11]) (by kernel_rfl) rfl ⟨?_, trivial⟩
                refine Stpx.eff rfl rfl (Eff.yld (Yld.cat rfl rfl (by first | (simp only [List.length_append, List.length_cons, List.length_nil]; omega) | omega)) rfl rfl) ?_
                refine ANx.take 12 rfl (by kernel_rfl) (by kernel_rfl) (by kernel_rfl) rfl rfl rfl (YldA.assign rfl) ?_
                exact ANx.doneC () (by kernel_rfl) ⟨rfl, trivial⟩ trivial ⟨rfl, rfl, rfl, rfl, rfl, trivial⟩ ⟨rfl, rfl, rfl, trivial⟩
        · -- 9
          refine Stpx.eff rfl rfl (Eff.yld (Yld.load Tryd.isAgg2 rfl rfl) rfl rfl) ?_
          refine ANx.all (rs := [2, 4]) (by kernel_rfl) rfl ⟨?_, ?_, trivial⟩
          · -- 2
            refine Stpx.eff rfl rfl (Eff.yld (Yld.cat rfl rfl (by first | (simp only [List.length_append, List.length_cons, List.length_nil]; omega) | omega)) rfl rfl) ?_
            refine ANx.all (rs := [4]) (by kernel_rfl) rfl ⟨?_, trivial⟩
            refine Stpx.eff rfl rfl (Eff.yld (Yld.load Tryd.isAgg2 rfl rfl) rfl rfl) ?_
            refine ANx.all (rs := [5]) (by kernel_rfl) rfl ⟨?_, trivial⟩
            refine Stpx.effX rfl rfl (EffX.callW [0] [0] [0] rfl rfl Tryd.call86 rfl (impl_Decimal_c (by omega) (by omega)) (.own rfl) rfl (fun _ => rfl) ⟨rfl, trivial⟩ rfl (fun _ => rfl) (fun _ => rfl)) ?_
            rintro _ ⟨⟨⟩, hu11, rfl⟩
            refine ANx.all (rs := [6, 10]) (by kernel_rfl) rfl ⟨?_, ?_, trivial⟩
            · -- 6
              refine Stpx.eff rfl rfl (Eff.yld (Yld.cat rfl rfl (by first | (simp only [List.length_append, List.length_cons, List.length_nil]; omega) | omega)) rfl rfl) ?_
              refine ANx.all (rs := [7, 10]) (by kernel_rfl) rfl ⟨?_, ?_, trivial⟩
              · -- 7
                refine Stpx.eff rfl rfl (Eff.yld (Yld.cat rfl rfl (by first | (simp only [List.length_append, List.length_cons, List.length_nil]; omega) | omega)) rfl rfl) ?_
                refine ANx.all (rs := [10]) (by kernel_rfl) rfl ⟨?_, trivial⟩
                refine Stpx.effX rfl rfl (EffX.callW [0] [0] [0] rfl rfl Tryd.call86 rfl (impl_Decimal_c (by omega) (by omega)) (.own rfl) rfl (fun _ => rfl) ⟨rfl, trivial⟩ rfl (fun _ => rfl) (fun _ => rfl)) ?_
                rintro _ ⟨⟨⟩, hu16, rfl⟩
                refine ANx.all (rs := [11]) (by kernel_rfl) rfl ⟨?_, trivial⟩
                refine Stpx.eff rfl rfl (Eff.yld (Yld.cat rfl rfl (by first | (simp only [List.length_append, List.length_cons, List.length_nil]; omega) | omega)) rfl rfl) ?_
                refine ANx.take 12 rfl (by kernel_rfl) (by kernel_rfl) (by kernel_rfl) rfl rfl rfl (YldA.assign rfl) ?_
                exact ANx.doneC () (by kernel_rfl) ⟨rfl, trivial⟩ trivial ⟨rfl, rfl, rfl, rfl, rfl, trivial⟩ ⟨rfl, rfl, rfl, trivial⟩
              · -- 10
                refine Stpx.effX rfl rfl (EffX.callW [0] [0] [0] rfl rfl Tryd.call86 rfl (impl_Decimal_c (by omega) (by omega)) (.own rfl) rfl (fun _ => rfl) ⟨rfl, trivial⟩ rfl (fun _ => rfl) (fun _ => rfl)) ?_
                rintro _ ⟨⟨⟩, hu16, rfl⟩
                refine ANx.all (rs := [7]) (by kernel_rfl) rfl ⟨?_, trivial⟩
                refine Stpx.eff rfl rfl (Eff.yld (Yld.cat rfl rfl (by first | (simp only [List.length_append, List.length_cons, List.length_nil]; omega) | omega)) rfl rfl) ?_
                refine ANx.all (rs := [11]) (by kernel_rfl) rfl ⟨?_, trivial⟩
                refine Stpx.eff rfl rfl (Eff.yld (Yld.cat rfl rfl (by first | (simp only [List.length_append, List.length_cons, List.length_nil]; omega) | omega)) rfl rfl) ?_
                refine ANx.take 12 rfl (by kernel_rfl) (by kernel_rfl) (by kernel_rfl) rfl rfl rfl (YldA.assign rfl) ?_
                exact ANx.doneC () (by kernel_rfl) ⟨rfl, trivial⟩ trivial ⟨rfl, rfl, rfl, rfl, rfl, trivial⟩ ⟨rfl, rfl, rfl, trivial⟩
            · -- 10
              refine Stpx.effX rfl rfl (EffX.callW [0] [0] [0] rfl rfl Tryd.call86 rfl (impl_Decimal_c (by omega) (by omega)) (.own rfl) rfl (fun _ => rfl) ⟨rfl, trivial⟩ rfl (fun _ => rfl) (fun _ => rfl)) ?_
              rintro _ ⟨⟨⟩, hu16, rfl⟩
              refine ANx.all (rs := [6]) (by kernel_rfl) rfl ⟨?_, trivial⟩
              refine Stpx.eff rfl rfl (Eff.yld (Yld.cat rfl rfl (by first | (simp only [List.length_append, List.length_cons, List.length_nil]; omega) | omega)) rfl rfl) ?_
              refine ANx.all (rs := [7]) (by kernel_rfl) rfl ⟨?_, trivial⟩
              refine Stpx.eff rfl rfl (Eff.yld (Yld.cat rfl rfl (by first | (simp only [List.length_append, List.length_cons, List.length_nil]; omega) | omega)) rfl rfl) ?_
              refine ANx.all (rs := [11]) (by kernel_rfl) rfl ⟨?_, trivial⟩
              refine Stpx.eff rfl rfl (Eff.yld (Yld.cat rfl rfl (by first | (simp only [List.length_append, List.length_cons, List.length_nil]; omega) | omega)) rfl rfl) ?_
              refine ANx.take 12 rfl (by kernel_rfl) (by kernel_rfl) (by kernel_rfl) rfl rfl rfl (YldA.assign rfl) ?_
              exact ANx.doneC () (by kernel_rfl) ⟨rfl, trivial⟩ trivial ⟨rfl, rfl, rfl, rfl, rfl, trivial⟩ ⟨rfl, rfl, rfl, trivial⟩
          · -- 4
            refine Stpx.eff rfl rfl (Eff.yld (Yld.load Tryd.isAgg2 rfl rfl) rfl rfl) ?_
            refine ANx.all (rs := [2, 5]) (by kernel_rfl) rfl ⟨?_, ?_, trivial⟩
            · -- 2
              refine Stpx.eff rfl rfl (Eff.yld (Yld.cat rfl rfl (by first | (simp only [List.length_append, List.length_cons, List.length_nil]; omega) | omega)) rfl rfl) ?_
              refine ANx.all (rs := [5]) (by kernel_rfl) rfl ⟨?_, trivial⟩
              refine Stpx.effX rfl rfl (EffX.callW [0] [0] [0] rfl rfl Tryd.call86 rfl (impl_Decimal_c (by omega) (by omega)) (.own rfl) rfl (fun _ => rfl) ⟨rfl, trivial⟩ rfl (fun _ => rfl) (fun _ => rfl)) ?_
              rintro _ ⟨⟨⟩, hu11, rfl⟩
              refine ANx.all (rs := [6, 10]) (by kernel_rfl) rfl ⟨?_, ?_, trivial⟩
              · -- 6
                refine Stpx.eff rfl rfl (Eff.yld (Yld.cat rfl rfl (by first | (simp only [List.length_append, List.length_cons, List.length_nil]; omega) | omega)) rfl rfl) ?_
                refine ANx.all (rs := [7, 10]) (by kernel_rfl) rfl ⟨?_, ?_, trivial⟩
                · -- 7
                  refine Stpx.eff rfl rfl (Eff.yld (Yld.cat rfl rfl (by first | (simp only [List.length_append, List.length_cons, List.length_nil]; omega) | omega)) rfl rfl) ?_
                  refine ANx.all (rs := [10]) (by kernel_rfl) rfl ⟨?_, trivial⟩
                  refine Stpx.effX rfl rfl (EffX.callW [0] [0] [0] rfl rfl Tryd.call86 rfl (impl_Decimal_c (by omega) (by omega)) (.own rfl) rfl (fun _ => rfl) ⟨rfl, trivial⟩ rfl (fun _ => rfl) (fun _ => rfl)) ?_
                  rintro _ ⟨⟨⟩, hu16, rfl⟩
                  refine ANx.all (rs := [11]) (by kernel_rfl) rfl ⟨?_, trivial⟩
                  refine Stpx.eff rfl rfl (Eff.yld (Yld.cat rfl rfl (by first | (simp only [List.length_append, List.length_cons, List.length_nil]; omega) | omega)) rfl rfl) ?_
                  refine ANx.take 12 rfl (by kernel_rfl) (by kernel_rfl) (by kernel_rfl) rfl rfl rfl (YldA.assign rfl) ?_
                  exact ANx.doneC () (by kernel_rfl) ⟨rfl, trivial⟩ trivial ⟨rfl, rfl, rfl, rfl, rfl, trivial⟩ ⟨rfl, rfl, rfl, trivial⟩
                · -- 10
                  refine Stpx.effX rfl rfl (EffX.callW [0] [0] [0] rfl rfl Tryd.call86 rfl (impl_Decimal_c (by omega) (by omega)) (.own rfl) rfl (fun _ => rfl) ⟨rfl, trivial⟩ rfl (fun _ => rfl) (fun _ => rfl)) ?_
                  rintro _ ⟨⟨⟩, hu16, rfl⟩
                  refine ANx.all (rs := [7]) (by kernel_rfl) rfl ⟨?_, trivial⟩
                  refine Stpx.eff rfl rfl (Eff.yld (Yld.cat rfl rfl (by first | (simp only [List.length_append, List.length_cons, List.length_nil]; omega) | omega)) rfl rfl) ?_
                  refine ANx.all (rs := [11]) (by kernel_rfl) rfl ⟨?_, trivial⟩
                  refine Stpx.eff rfl rfl (Eff.yld (Yld.cat rfl rfl (by first | (simp only [List.length_append, List.length_cons, List.length_nil]; omega) | omega)) rfl rfl) ?_
                  refine ANx.take 12 rfl (by kernel_rfl) (by kernel_rfl) (by kernel_rfl) rfl rfl rfl (YldA.assign rfl) ?_
                  exact ANx.doneC () (by kernel_rfl) ⟨rfl, trivial⟩ trivial ⟨rfl, rfl, rfl, rfl, rfl, trivial⟩ ⟨rfl, rfl, rfl, trivial⟩
              · -- 10
                refine Stpx.effX rfl rfl (EffX.callW [0] [0] [0] rfl rfl Tryd.call86 rfl (impl_Decimal_c (by omega) (by omega)) (.own rfl) rfl (fun _ => rfl) ⟨rfl, trivial⟩ rfl (fun _ => rfl) (fun _ => rfl)) ?_
                rintro _ ⟨⟨⟩, hu16, rfl⟩
                refine ANx.all (rs := [6]) (by kernel_rfl) rfl ⟨?_, trivial⟩
                refine Stpx.eff rfl rfl (Eff.yld (Yld.cat rfl rfl (by first | (simp only [List.length_append, List.length_cons, List.length_nil]; omega) | omega)) rfl rfl) ?_
                refine ANx.all (rs := [7]) (by kernel_rfl) rfl ⟨?_, trivial⟩
                refine Stpx.eff rfl rfl (Eff.yld (Yld.cat rfl rfl (by first | (simp only [List.length_append, List.length_cons, List.length_nil]; omega) | omega)) rfl rfl) ?_
                refine ANx.all (rs := [11]) (by kernel_rfl) rfl ⟨?_, trivial⟩
                refine Stpx.eff rfl rfl (Eff.yld (Yld.cat rfl rfl (by first | (simp only [List.length_append, List.length_cons, List.length_nil]; omega) | omega)) rfl rfl) ?_
                refine ANx.take 12 rfl (by kernel_rfl) (by kernel_rfl) (by kernel_rfl) rfl rfl rfl (YldA.assign rfl) ?_
                exact ANx.doneC () (by kernel_rfl) ⟨rfl, trivial⟩ trivial ⟨rfl, rfl, rfl, rfl, rfl, trivial⟩ ⟨rfl, rfl, rfl, trivial⟩
            · -- 5
              refine Stpx.effX rfl rfl (EffX.callW [0] [0] [0] rfl rfl Tryd.call86 rfl (impl_Decimal_c (by omega) (by omega)) (.own rfl) rfl (fun _ => rfl) ⟨rfl, trivial⟩ rfl (fun _ => rfl) (fun _ => rfl)) ?_
              rintro _ ⟨⟨⟩, hu11, rfl⟩
              refine ANx.all (rs := [2, 10]) (by kernel_rfl) rfl ⟨?_, ?_, trivial⟩
              · -- 2
                refine Stpx.eff rfl rfl (Eff.yld (Yld.cat rfl rfl (by first | (simp only [List.length_append, List.length_cons, List.length_nil]; omega) | omega)) rfl rfl) ?_
                refine ANx.all (rs := [6, 10]) (by kernel_rfl) rfl ⟨?_, ?_, trivial⟩
                · -- 6
                  refine Stpx.eff rfl rfl (Eff.yld (Yld.cat rfl rfl (by first | (simp only [List.length_append, List.length_cons, List.length_nil]; omega) | omega)) rfl rfl) ?_
                  refine ANx.all (rs := [7, 10]) (by kernel_rfl) rfl ⟨?_, ?_, trivial⟩
                  · -- 7
                    refine Stpx.eff rfl rfl (Eff.yld (Yld.cat rfl rfl (by first | (simp only [List.length_append, List.length_cons, List.length_nil]; omega) | omega)) rfl rfl) ?_
                    refine ANx.all (rs := [10]) (by kernel_rfl) rfl ⟨?_, trivial⟩
                    refine Stpx.effX rfl rfl (EffX.callW [0] [0] [0] rfl rfl Tryd.call86 rfl (impl_Decimal_c (by omega) (by omega)) (.own rfl) rfl (fun _ => rfl) ⟨rfl, trivial⟩ rfl (fun _ => rfl) (fun _ => rfl)) ?_
                    rintro _ ⟨⟨⟩, hu16, rfl⟩
                    refine ANx.all (rs := [11]) (by kernel_rfl) rfl ⟨?_, trivial⟩
                    refine Stpx.eff rfl rfl (Eff.yld (Yld.cat rfl rfl (by first | (simp only [List.length_append, List.length_cons, List.length_nil]; omega) | omega)) rfl rfl) ?_
                    refine ANx.take 12 rfl (by kernel_rfl) (by kernel_rfl) (by kernel_rfl) rfl rfl rfl (YldA.assign rfl) ?_
                    exact ANx.doneC () (by kernel_rfl) ⟨rfl, trivial⟩ trivial ⟨rfl, rfl, rfl, rfl, rfl, trivial⟩ ⟨rfl, rfl, rfl, trivial⟩
                  · -- 10
                    refine Stpx.effX rfl rfl (EffX.callW [0] [0] [0] rfl rfl Tryd.call86 rfl (impl_Decimal_c (by omega) (by omega)) (.own rfl) rfl (fun _ => rfl) ⟨rfl, trivial⟩ rfl (fun _ => rfl) (fun _ => rfl)) ?_
                    rintro _ ⟨⟨⟩, hu16, rfl⟩
                    refine ANx.all (rs := [7]) (by kernel_rfl) rfl ⟨?_, trivial⟩
                    refine Stpx.eff rfl rfl (Eff.yld (Yld.cat rfl rfl (by first | (simp only [List.length_append, List.length_cons, List.length_nil]; omega) | omega)) rfl rfl) ?_
                    refine ANx.all (rs := [11]) (by kernel_rfl) rfl ⟨?_, trivial⟩
                    refine Stpx.eff rfl rfl (Eff.yld (Yld.cat rfl rfl (by first | (simp only [List.length_append, List.length_cons, List.length_nil]; omega) | omega)) rfl rfl) ?_
                    refine ANx.take 12 rfl (by kernel_rfl) (by kernel_rfl) (by kernel_rfl) rfl rfl rfl (YldA.assign rfl) ?_
                    exact ANx.doneC () (by kernel_rfl) ⟨rfl, trivial⟩ trivial ⟨rfl, rfl, rfl, rfl, rfl, trivial⟩ ⟨rfl, rfl, rfl, trivial⟩
                · -- 10
                  refine Stpx.effX rfl rfl (EffX.callW [0] [0] [0] rfl rfl Tryd.call86 rfl (impl_Decimal_c (by omega) (by omega)) (.own rfl) rfl (fun _ => rfl) ⟨rfl, trivial⟩ rfl (fun _ => rfl) (fun _ => rfl)) ?_
                  rintro _ ⟨⟨⟩, hu16, rfl⟩
                  refine ANx.all (rs := [6]) (by kernel_rfl) rfl ⟨?_, trivial⟩
                  refine Stpx.eff rfl rfl (Eff.yld (Yld.cat rfl rfl (by first | (simp only [List.length_append, List.length_cons, List.length_nil]; omega) | omega)) rfl rfl) ?_
                  refine ANx.all (rs := [7]) (by kernel_rfl) rfl ⟨?_, trivial⟩
                  refine Stpx.eff rfl rfl (Eff.yld (Yld.cat rfl rfl (by first | (simp only [List.length_append, List.length_cons, List.length_nil]; omega) | omega)) rfl rfl) ?_
                  refine ANx.all (rs := [11]) (by kernel_rfl) rfl ⟨?_, trivial⟩
                  refine Stpx.eff rfl rfl (Eff.yld (Yld.cat rfl rfl (by first | (simp only [List.length_append, List.length_cons, List.length_nil]; omega) | omega)) rfl rfl) ?_
                  refine ANx.take 12 rfl (by kernel_rfl) (by kernel_rfl) (by kernel_rfl) rfl rfl rfl (YldA.assign rfl) ?_
                  exact ANx.doneC () (by kernel_rfl) ⟨rfl, trivial⟩ trivial ⟨rfl, rfl, rfl, rfl, rfl, trivial⟩ ⟨rfl, rfl, rfl, trivial⟩
              · -- 10
                refine Stpx.effX rfl rfl (EffX.callW [0] [0] [0] rfl rfl Tryd.call86 rfl (impl_Decimal_c (by omega) (by omega)) (.own rfl) rfl (fun _ => rfl) ⟨rfl, trivial⟩ rfl (fun _ => rfl) (fun _ => rfl)) ?_
                rintro _ ⟨⟨⟩, hu16, rfl⟩
                refine ANx.all (rs := [2]) (by kernel_rfl) rfl ⟨?_, trivial⟩
                refine Stpx.eff rfl rfl (Eff.yld (Yld.cat rfl rfl (by first | (simp only [List.length_append, List.length_cons, List.length_nil]; omega) | omega)) rfl rfl) ?_
                refine ANx.all (rs := [6]) (by kernel_rfl) rfl ⟨?_, trivial⟩
                refine Stpx.eff rfl rfl (Eff.yld (Yld.cat rfl rfl (by first | (simp only [List.length_append, List.length_cons, List.length_nil]; omega) | omega)) rfl rfl) ?_
                refine ANx.all (rs := [7]) (by kernel_rfl) rfl ⟨?_, trivial⟩
                refine Stpx.eff rfl rfl (Eff.yld (Yld.cat rfl rfl (by first | (simp only [List.length_append, List.length_cons, List.length_nil]; omega) | omega)) rfl rfl) ?_
                refine ANx.all (rs := [11]) (by kernel_rfl) rfl ⟨?_, trivial⟩
                refine Stpx.eff rfl rfl (Eff.yld (Yld.cat rfl rfl (by first | (simp only [List.length_append, List.length_cons, List.length_nil]; omega) | omega)) rfl rfl) ?_
                refine ANx.take 12 rfl (by kernel_rfl) (by kernel_rfl) (by kernel_rfl) rfl rfl rfl (YldA.assign rfl) ?_
                exact ANx.doneC () (by kernel_rfl) ⟨rfl, trivial⟩ trivial ⟨rfl, rfl, rfl, rfl, rfl, trivial⟩ ⟨rfl, rfl, rfl, trivial⟩
      · -- 4
        refine Stpx.eff rfl rfl (Eff.yld (Yld.load Tryd.isAgg2 rfl rfl) rfl rfl) ?_
        refine ANx.all (rs := [1, 5, 9]) (by kernel_rfl) rfl ⟨?_, ?_, ?_, trivial⟩
        · -- 1
          refine Stpx.eff rfl rfl (Eff.yld (Yld.load Tryd.isAgg9 rfl rfl) rfl rfl) ?_
          refine ANx.all (rs := [2, 5, 9]) (by kernel_rfl) rfl ⟨?_, ?_, ?_, trivial⟩
          · -- 2
            refine Stpx.eff rfl rfl (Eff.yld (Yld.cat rfl rfl (by first | (simp only [List.length_append, List.length_cons, List.length_nil]; omega) | omega)) rfl rfl) ?_
            refine ANx.all (rs := [5, 9]) (by kernel_rfl) rfl ⟨?_, ?_, trivial⟩
            · -- 5
              refine Stpx.effX rfl rfl (EffX.callW [0] [0] [0] rfl rfl Tryd.call86 rfl (impl_Decimal_c (by omega) (by omega)) (.own rfl) rfl (fun _ => rfl) ⟨rfl, trivial⟩ rfl (fun _ => rfl) (fun _ => rfl)) ?_
              rintro _ ⟨⟨⟩, hu11, rfl⟩
              refine ANx.all (rs := [6, 9]) (by kernel_rfl) rfl ⟨?_, ?_, trivial⟩
              · -- 6
                refine Stpx.eff rfl rfl (Eff.yld (Yld.cat rfl rfl (by first | (simp only [List.length_append, List.length_cons, List.length_nil]; omega) | omega)) rfl rfl) ?_
                refine ANx.all (rs := [7, 9]) (by kernel_rfl) rfl ⟨?_, ?_, trivial⟩
                · -- 7
                  refine Stpx.eff rfl rfl (Eff.yld (Yld.cat rfl rfl (by first | (simp only [List.length_append, List.length_cons, List.length_nil]; omega) | omega)) rfl rfl) ?_
                  refine ANx.all (rs := [9]) (by kernel_rfl) rfl ⟨?_, trivial⟩
                  refine Stpx.eff rfl rfl (Eff.yld (Yld.load Tryd.isAgg2 rfl rfl) rfl rfl) ?_
                  refine ANx.all (rs := [10]) (by kernel_rfl) rfl ⟨?_, trivial⟩
                  refine Stpx.effX rfl rfl (EffX.callW [0] [0] [0] rfl rfl Tryd.call86 rfl (impl_Decimal_c (by omega) (by omega)) (.own rfl) rfl (fun _ => rfl) ⟨rfl, trivial⟩ rfl (fun _ => rfl) (fun _ => rfl)) ?_
                  rintro _ ⟨⟨⟩, hu16, rfl⟩
                  refine ANx.all (rs := [11]) (by kernel_rfl) rfl ⟨?_, trivial⟩
                  refine Stpx.eff rfl rfl (Eff.yld (Yld.cat rfl rfl (by first | (simp only [List.length_append, List.length_cons, List.length_nil]; omega) | omega)) rfl rfl) ?_
                  refine ANx.take 12 rfl (by kernel_rfl) (by kernel_rfl) (by kernel_rfl) rfl rfl rfl (YldA.assign rfl) ?_
                  exact ANx.doneC () (by kernel_rfl) ⟨rfl, trivial⟩ trivial ⟨rfl, rfl, rfl, rfl, rfl, trivial⟩ ⟨rfl, rfl, rfl, trivial⟩
                · -- 9
                  refine Stpx.eff rfl rfl (Eff.yld (Yld.load Tryd.isAgg2 rfl rfl) rfl rfl) ?_
                  refine ANx.all (rs := [7, 10]) (by kernel_rfl) rfl ⟨?_, ?_, trivial⟩
                  · -- 7
                    refine Stpx.eff rfl rfl (Eff.yld (Yld.cat rfl rfl (by first | (simp only [List.length_append, List.length_cons, List.length_nil]; omega) | omega)) rfl rfl) ?_
                    refine ANx.all (rs := [10]) (by kernel_rfl) rfl ⟨?_, trivial⟩
                    refine Stpx.effX rfl rfl (EffX.callW [0] [0] [0] rfl rfl Tryd.call86 rfl (impl_Decimal_c (by omega) (by omega)) (.own rfl) rfl (fun _ => rfl) ⟨rfl, trivial⟩ rfl (fun _ => rfl) (fun _ => rfl)) ?_
                    rintro _ ⟨⟨⟩, hu16, rfl⟩
                    refine ANx.all (rs := [11]) (by kernel_rfl) rfl ⟨?_, trivial⟩
                    refine Stpx.eff rfl rfl (Eff.yld (Yld.cat rfl rfl (by first | (simp only [List.length_append, List.length_cons, List.length_nil]; omega) | omega)) rfl rfl) ?_
                    refine ANx.take 12 rfl (by kernel_rfl) (by kernel_rfl) (by kernel_rfl) rfl rfl rfl (YldA.assign rfl) ?_
                    exact ANx.doneC () (by kernel_rfl) ⟨rfl, trivial⟩ trivial ⟨rfl, rfl, rfl, rfl, rfl, trivial⟩ ⟨rfl, rfl, rfl, trivial⟩
                  · -- 10
                    refine Stpx.effX rfl rfl (EffX.callW [0] [0] [0] rfl rfl Tryd.call86 rfl (impl_Decimal_c (by omega) (by omega)) (.own rfl) rfl (fun _ => rfl) ⟨rfl, trivial⟩ rfl (fun _ => rfl) (fun _ => rfl)) ?_
                    rintro _ ⟨⟨⟩, hu16, rfl⟩
                    refine ANx.all (rs := [7]) (by kernel_rfl) rfl ⟨?_, trivial⟩
                    refine Stpx.eff rfl rfl (Eff.yld (Yld.cat rfl rfl (by first | (simp only [List.length_append, List.length_cons, List.length_nil]; omega) | omega)) rfl rfl) ?_
                    refine ANx.all (rs := [11]) (by kernel_rfl) rfl ⟨?_, trivial⟩
                    refine Stpx.eff rfl rfl (Eff.yld (Yld.cat rfl rfl (by first | (simp only [List.length_append, List.length_cons, List.length_nil]; omega) | omega)) rfl rfl) ?_
                    refine ANx.take 12 rfl (by kernel_rfl) (by kernel_rfl) (by kernel_rfl) rfl rfl rfl (YldA.assign rfl) ?_
                    exact ANx.doneC () (by kernel_rfl) ⟨rfl, trivial⟩ trivial ⟨rfl, rfl, rfl, rfl, rfl, trivial⟩ ⟨rfl, rfl, rfl, trivial⟩
              · -- 9
                refine Stpx.eff rfl rfl (Eff.yld (Yld.load Tryd.isAgg2 rfl rfl) rfl rfl) ?_
                refine ANx.all (rs := [6, 10]) (by kernel_rfl) rfl ⟨?_, ?_, trivial⟩
                · -- 6
                  refine Stpx.eff rfl rfl (Eff.yld (Yld.cat rfl rfl (by first | (simp only [List.length_append, List.length_cons, List.length_nil]; omega) | omega)) rfl rfl) ?_
                  refine ANx.all (rs := [7, 10]) (by kernel_rfl) rfl ⟨?_, ?_, trivial⟩
                  · -- 7
                    refine Stpx.eff rfl rfl (Eff.yld (Yld.cat rfl rfl (by first | (simp only [List.length_append, List.length_cons, List.length_nil]; omega) | omega)) rfl rfl) ?_
                    refine ANx.all (rs := [10]) (by kernel_rfl) rfl ⟨?_, trivial⟩
                    refine Stpx.effX rfl rfl (EffX.callW [0] [0] [0] rfl rfl Tryd.call86 rfl (impl_Decimal_c (by omega) (by omega)) (.own rfl) rfl (fun _ => rfl) ⟨rfl, trivial⟩ rfl (fun _ => rfl) (fun _ => rfl)) ?_
                    rintro _ ⟨⟨⟩, hu16, rfl⟩
                    refine ANx.all (rs := [11]) (by kernel_rfl) rfl ⟨?_, trivial⟩
                    refine Stpx.eff rfl rfl (Eff.yld (Yld.cat rfl rfl (by first | (simp only [List.length_append, List.length_cons, List.length_nil]; omega) | omega)) rfl rfl) ?_
                    refine ANx.take 12 rfl (by kernel_rfl) (by kernel_rfl) (by kernel_rfl) rfl rfl rfl (YldA.assign rfl) ?_
                    exact ANx.doneC () (by kernel_rfl) ⟨rfl, trivial⟩ trivial ⟨rfl, rfl, rfl, rfl, rfl, trivial⟩ ⟨rfl, rfl, rfl, trivial⟩
                  · -- 10
                    refine Stpx.effX rfl rfl (EffX.callW [0] [0] [0] rfl rfl Tryd.call86 rfl (impl_Decimal_c (by omega) (by omega)) (.own rfl) rfl (fun _ => rfl) ⟨rfl, trivial⟩ rfl (fun _ => rfl) (fun _ => rfl)) ?_
                    rintro _ ⟨⟨⟩, hu16, rfl⟩
                    refine ANx.all (rs := [7]) (by kernel_rfl) rfl ⟨?_, trivial⟩
                    refine Stpx.eff rfl rfl (Eff.yld (Yld.cat rfl rfl (by first | (simp only [List.length_append, List.length_cons, List.length_nil]; omega) | omega)) rfl rfl) ?_
                    refine ANx.all (rs := [11]) (by kernel_rfl) rfl ⟨?_, trivial⟩
                    refine Stpx.eff rfl rfl (Eff.yld (Yld.cat rfl rfl (by first | (simp only [List.length_append, List.length_cons, List.length_nil]; omega) | omega)) rfl rfl) ?_
                    refine ANx.take 12 rfl (by kernel_rfl) (by kernel_rfl) (by kernel_rfl) rfl rfl rfl (YldA.assign rfl) ?_
                    exact ANx.doneC () (by kernel_rfl) ⟨rfl, trivial⟩ trivial ⟨rfl, rfl, rfl, rfl, rfl, trivial⟩ ⟨rfl, rfl, rfl, trivial⟩
                · -- 10
                  refine Stpx.effX rfl rfl (EffX.callW [0] [0] [0] rfl rfl Tryd.call86 rfl (impl_Decimal_c (by omega) (by omega)) (.own rfl) rfl (fun _ => rfl) ⟨rfl, trivial⟩ rfl (fun _ => rfl) (fun _ => rfl)) ?_
                  rintro _ ⟨⟨⟩, hu16, rfl⟩
                  refine ANx.all (rs := [6]) (by kernel_rfl) rfl ⟨?_, trivial⟩
                  refine Stpx.eff rfl rfl (Eff.yld (Yld.cat rfl rfl (by first | (simp only [List.length_append, List.length_cons, List.length_nil]; omega) | omega)) rfl rfl) ?_
                  refine ANx.all (rs := [7]) (by kernel_rfl) rfl ⟨?_, trivial⟩
                  refine Stpx.eff rfl rfl (Eff.yld (Yld.cat rfl rfl (by first | (simp only [List.length_append, List.length_cons, List.length_nil]; omega) | omega)) rfl rfl) ?_
                  refine ANx.all (rs := [11]) (by kernel_rfl) rfl ⟨?_, trivial⟩
                  refine Stpx.eff rfl rfl (Eff.yld (Yld.cat rfl rfl (by first | (simp only [List.length_append, List.length_cons, List.length_nil]; omega) | omega)) rfl rfl) ?_
                  refine ANx.take 12 rfl (by kernel_rfl) (by kernel_rfl) (by kernel_rfl) rfl rfl rfl (YldA.assign rfl) ?_
                  exact ANx.doneC () (by kernel_rfl) ⟨rfl, trivial⟩ trivial ⟨rfl, rfl, rfl, rfl, rfl, trivial⟩ ⟨rfl, rfl, rfl, trivial⟩
            · -- 9
              refine Stpx.eff rfl rfl (Eff.yld (Yld.load Tryd.isAgg2 rfl rfl) rfl rfl) ?_
              refine ANx.all (rs := [5]) (by kernel_rfl) rfl ⟨?_, trivial⟩
              refine Stpx.effX rfl rfl (EffX.callW [0] [0] [0] rfl rfl Tryd.call86 rfl (impl_Decimal_c (by omega) (by omega)) (.own rfl) rfl (fun _ => rfl) ⟨rfl, trivial⟩ rfl (fun _ => rfl) (fun _ => rfl)) ?_
              rintro _ ⟨⟨⟩, hu11, rfl⟩
              refine ANx.all (rs := [6, 10]) (by kernel_rfl) rfl ⟨?_, ?_, trivial⟩
              · -- 6
                refine Stpx.eff rfl rfl (Eff.yld (Yld.cat rfl rfl (by first | (simp only [List.length_append, List.length_cons, List.length_nil]; omega) | omega)) rfl rfl) ?_
                refine ANx.all (rs := [7, 10]) (by kernel_rfl) rfl ⟨?_, ?_, trivial⟩
                · -- 7
                  refine Stpx.eff rfl rfl (Eff.yld (Yld.cat rfl rfl (by first | (simp only [List.length_append, List.length_cons, List.length_nil]; omega) | omega)) rfl rfl) ?_
                  refine ANx.all (rs := [10]) (by kernel_rfl) rfl ⟨?_, trivial⟩
                  refine Stpx.effX rfl rfl (EffX.callW [0] [0] [0] rfl rfl Tryd.call86 rfl (impl_Decimal_c (by omega) (by omega)) (.own rfl) rfl (fun _ => rfl) ⟨rfl, trivial⟩ rfl (fun _ => rfl) (fun _ => rfl)) ?_
                  rintro _ ⟨⟨⟩, hu16, rfl⟩
                  refine ANx.all (rs := [11]) (by kernel_rfl) rfl ⟨?_, trivial⟩
                  refine Stpx.eff rfl rfl (Eff.yld (Yld.cat rfl rfl (by first | (simp only [List.length_append, List.length_cons, List.length_nil]; omega) | omega)) rfl rfl) ?_
                  refine ANx.take 12 rfl (by kernel_rfl) (by kernel_rfl) (by kernel_rfl) rfl rfl rfl (YldA.assign rfl) ?_
                  exact ANx.doneC () (by kernel_rfl) ⟨rfl, trivial⟩ trivial ⟨rfl, rfl, rfl, rfl, rfl, trivial⟩ ⟨rfl, rfl, rfl, trivial⟩
                · -- 10
                  refine Stpx.effX rfl rfl (EffX.callW [0] [0] [0] rfl rfl Tryd.call86 rfl (impl_Decimal_c (by omega) (by omega)) (.own rfl) rfl (fun _ => rfl) ⟨rfl, trivial⟩ rfl (fun _ => rfl) (fun _ => rfl)) ?_
                  rintro _ ⟨⟨⟩, hu16, rfl⟩
                  refine ANx.all (rs := [7]) (by kernel_rfl) rfl ⟨?_, trivial⟩
                  refine Stpx.eff rfl rfl (Eff.yld (Yld.cat rfl rfl (by first | (simp only [List.length_append, List.length_cons, List.length_nil]; omega) | omega)) rfl rfl) ?_
                  refine ANx.all (rs := [11]) (by kernel_rfl) rfl ⟨?_, trivial⟩
                  refine Stpx.eff rfl rfl (Eff.yld (Yld.cat rfl rfl (by first | (simp only [List.length_append, List.length_cons, List.length_nil]; omega) | omega)) rfl rfl) ?_
                  refine ANx.take 12 rfl (by kernel_rfl) (by kernel_rfl) (by kernel_rfl) rfl rfl rfl (YldA.assign rfl) ?_
                  exact ANx.doneC () (by kernel_rfl) ⟨rfl, trivial⟩ trivial ⟨rfl, rfl, rfl, rfl, rfl, trivial⟩ ⟨rfl, rfl, rfl, trivial⟩
              · -- 10
                refine Stpx.effX rfl rfl (EffX.callW [0] [0] [0] rfl rfl Tryd.call86 rfl (impl_Decimal_c (by omega) (by omega)) (.own rfl) rfl (fun _ => rfl) ⟨rfl, trivial⟩ rfl (fun _ => rfl) (fun _ => rfl)) ?_
                rintro _ ⟨⟨⟩, hu16, rfl⟩
                refine ANx.all (rs := [6]) (by kernel_rfl) rfl ⟨?_, trivial⟩
                refine Stpx.eff rfl rfl (Eff.yld (Yld.cat rfl rfl (by first | (simp only [List.length_append, List.length_cons, List.length_nil]; omega) | omega)) rfl rfl) ?_
                refine ANx.all (rs := [7]) (by kernel_rfl) rfl ⟨?_, trivial⟩
                refine Stpx.eff rfl rfl (Eff.yld (Yld.cat rfl rfl (by first | (simp only [List.length_append, List.length_cons, List.length_nil]; omega) | omega)) rfl rfl) ?_
                refine ANx.all (rs := [11]) (by kernel_rfl) rfl ⟨?_, trivial⟩
                refine Stpx.eff rfl rfl (Eff.yld (Yld.cat rfl rfl (by first | (simp only [List.length_append, List.length_cons, List.length_nil]; omega) | omega)) rfl rfl) ?_
                refine ANx.take 12 rfl (by kernel_rfl) (by kernel_rfl) (by kernel_rfl) rfl rfl rfl (YldA.assign rfl) ?_
                exact ANx.doneC () (by kernel_rfl) ⟨rfl, trivial⟩ trivial ⟨rfl, rfl, rfl, rfl, rfl, trivial⟩ ⟨rfl, rfl, rfl, trivial⟩
          · -- 5
            refine Stpx.effX rfl rfl (EffX.callW [0] [0] [0] rfl rfl Tryd.call86 rfl (impl_Decimal_c (by omega) (by omega)) (.own rfl) rfl (fun _ => rfl) ⟨rfl, trivial⟩ rfl (fun _ => rfl) (fun _ => rfl)) ?_
            rintro _ ⟨⟨⟩, hu11, rfl⟩
            refine ANx.all (rs := [2, 9]) (by kernel_rfl) rfl ⟨?_, ?_, trivial⟩
            · -- 2
              refine Stpx.eff rfl rfl (Eff.yld (Yld.cat rfl rfl (by first | (simp only [List.length_append, List.length_cons, List.length_nil]; omega) | omega)) rfl rfl) ?_
              refine ANx.all (rs := [6, 9]) (by kernel_rfl) rfl ⟨?_, ?_, trivial⟩
              · -- 6
                refine Stpx.eff rfl rfl (Eff.yld (Yld.cat rfl rfl (by first | (simp only [List.length_append, List.length_cons, List.length_nil]; omega) | omega)) rfl rfl) ?_
                refine ANx.all (rs := [7, 9]) (by kernel_rfl) rfl ⟨?_, ?_, trivial⟩
                · -- 7
                  refine Stpx.eff rfl rfl (Eff.yld (Yld.cat rfl rfl (by first | (simp only [List.length_append, List.length_cons, List.length_nil]; omega) | omega)) rfl rfl) ?_
                  refine ANx.all (rs := [9]) (by kernel_rfl) rfl ⟨?_, trivial⟩
                  refine Stpx.eff rfl rfl (Eff.yld (Yld.load Tryd.isAgg2 rfl rfl) rfl rfl) ?_
                  refine ANx.all (rs := [10]) (by kernel_rfl) rfl ⟨?_, trivial⟩
                  refine Stpx.effX rfl rfl (EffX.callW [0] [0] [0] rfl rfl Tryd.call86 rfl (impl_Decimal_c (by omega) (by omega)) (.own rfl) rfl (fun _ => rfl) ⟨rfl, trivial⟩ rfl (fun _ => rfl) (fun _ => rfl)) ?_
                  rintro _ ⟨⟨⟩, hu16, rfl⟩
                  refine ANx.all (rs := [11]) (by kernel_rfl) rfl ⟨?_, trivial⟩
                  refine Stpx.eff rfl rfl (Eff.yld (Yld.cat rfl rfl (by first | (simp only [List.length_append, List.length_cons, List.length_nil]; omega) | omega)) rfl rfl) ?_
                  refine ANx.take 12 rfl (by kernel_rfl) (by kernel_rfl) (by kernel_rfl) rfl rfl rfl (YldA.assign rfl) ?_
                  exact ANx.doneC () (by kernel_rfl) ⟨rfl, trivial⟩ trivial ⟨rfl, rfl, rfl, rfl, rfl, trivial⟩ ⟨rfl, rfl, rfl, trivial⟩
                · -- 9
                  refine Stpx.eff rfl rfl (Eff.yld (Yld.load Tryd.isAgg2 rfl rfl) rfl rfl) ?_
                  refine ANx.all (rs := [7, 10]) (by kernel_rfl) rfl ⟨?_, ?_, trivial⟩
                  · -- 7
                    refine Stpx.eff rfl rfl (Eff.yld (Yld.cat rfl rfl (by first | (simp only [List.length_append, List.length_cons, List.length_nil]; omega) | omega)) rfl rfl) ?_
                    refine ANx.all (rs := [10]) (by kernel_rfl) rfl ⟨?_, trivial⟩
                    refine Stpx.effX rfl rfl (EffX.callW [0] [0] [0] rfl rfl Tryd.call86 rfl (impl_Decimal_c (by omega) (by omega)) (.own rfl) rfl (fun _ => rfl) ⟨rfl, trivial⟩ rfl (fun _ => rfl) (fun _ => rfl)) ?_
                    rintro _ ⟨⟨⟩, hu16, rfl⟩
                    refine ANx.all (rs := [11]) (by kernel_rfl) rfl ⟨?_, trivial⟩
                    refine Stpx.eff rfl rfl (Eff.yld (Yld.cat rfl rfl (by first | (simp only [List.length_append, List.length_cons, List.length_nil]; omega) | omega)) rfl rfl) ?_
                    refine ANx.take 12 rfl (by kernel_rfl) (by kernel_rfl) (by kernel_rfl) rfl rfl rfl (YldA.assign rfl) ?_
                    exact ANx.doneC () (by kernel_rfl) ⟨rfl, trivial⟩ trivial ⟨rfl, rfl, rfl, rfl, rfl, trivial⟩ ⟨rfl, rfl, rfl, trivial⟩
                  · -- 10
                    refine Stpx.effX rfl rfl (EffX.callW [0] [0] [0] rfl rfl Tryd.call86 rfl (impl_Decimal_c (by omega) (by omega)) (.own rfl) rfl (fun _ => rfl) ⟨rfl, trivial⟩ rfl (fun _ => rfl) (fun _ => rfl)) ?_
                    rintro _ ⟨⟨⟩, hu16, rfl⟩
                    refine ANx.all (rs := [7]) (by kernel_rfl) rfl ⟨?_, trivial⟩
                    refine Stpx.eff rfl rfl (Eff.yld (Yld.cat rfl rfl (by first | (simp only [List.length_append, List.length_cons, List.length_nil]; omega) | omega)) rfl rfl) ?_
                    refine ANx.all (rs := [11]) (by kernel_rfl) rfl ⟨?_, trivial⟩
                    refine Stpx.eff rfl rfl (Eff.yld (Yld.cat rfl rfl (by first | (simp only [List.length_append, List.length_cons, List.length_nil]; omega) | omega)) rfl rfl) ?_
                    refine ANx.take 12 rfl (by kernel_rfl) (by kernel_rfl) (by kernel_rfl) rfl rfl rfl (YldA.assign rfl) ?_
                    exact ANx.doneC () (by kernel_rfl) ⟨rfl, trivial⟩ trivial ⟨rfl, rfl, rfl, rfl, rfl, trivial⟩ ⟨rfl, rfl, rfl, trivial⟩
              · -- 9
                refine Stpx.eff rfl rfl (Eff.yld (Yld.load Tryd.isAgg2 rfl rfl) rfl rfl) ?_
                refine ANx.all (rs := [6, 10]) (by kernel_rfl) rfl ⟨?_, ?_, trivial⟩
                · -- 6
                  refine Stpx.eff rfl rfl (Eff.yld (Yld.cat rfl rfl (by first | (simp only [List.length_append, List.length_cons, List.length_nil]; omega) | omega)) rfl rfl) ?_
                  refine ANx.all (rs := [7, 10]) (by kernel_rfl) rfl ⟨?_, ?_, trivial⟩
                  · -- 7
                    refine Stpx.eff rfl rfl (Eff.yld (Yld.cat rfl rfl (by first | (simp only [List.length_append, List.length_cons, List.length_nil]; omega) | omega)) rfl rfl) ?_
                    refine ANx.all (rs := [10]) (by kernel_rfl) rfl ⟨?_, trivial⟩
                    refine Stpx.effX rfl rfl (EffX.callW [0] [0] [0] rfl rfl Tryd.call86 rfl (impl_Decimal_c (by omega) (by omega)) (.own rfl) rfl (fun _ => rfl) ⟨rfl, trivial⟩ rfl (fun _ => rfl) (fun _ => rfl)) ?_
                    rintro _ ⟨⟨⟩, hu16, rfl⟩
                    refine ANx.all (rs := [11]) (by kernel_rfl) rfl ⟨?_, trivial⟩
                    refine Stpx.eff rfl rfl (Eff.yld (Yld.cat rfl rfl (by first | (simp only [List.length_append, List.length_cons, List.length_nil]; omega) | omega)) rfl rfl) ?_
                    refine ANx.take 12 rfl (by kernel_rfl) (by kernel_rfl) (by kernel_rfl) rfl rfl rfl (YldA.assign rfl) ?_
                    exact ANx.doneC () (by kernel_rfl) ⟨rfl, trivial⟩ trivial ⟨rfl, rfl, rfl, rfl, rfl, trivial⟩ ⟨rfl, rfl, rfl, trivial⟩
                  · -- 10
                    refine Stpx.effX rfl rfl (EffX.callW [0] [0] [0] rfl rfl Tryd.call86 rfl (impl_Decimal_c (by omega) (by omega)) (.own rfl) rfl (fun _ => rfl) ⟨rfl, trivial⟩ rfl (fun _ => rfl) (fun _ => rfl)) ?_
                    rintro _ ⟨⟨⟩, hu16, rfl⟩
                    refine ANx.all (rs := [7]) (by kernel_rfl) rfl ⟨?_, trivial⟩
                    refine Stpx.eff rfl rfl (Eff.yld (Yld.cat rfl rfl (by first | (simp only [List.length_append, List.length_cons, List.length_nil]; omega) | omega)) rfl rfl) ?_
                    refine ANx.all (rs := [11]) (by kernel_rfl) rfl ⟨?_, trivial⟩
                    refine Stpx.eff rfl rfl (Eff.yld (Yld.cat rfl rfl (by first | (simp only [List.length_append, List.length_cons, List.length_nil]; omega) | omega)) rfl rfl) ?_
                    refine ANx.take 12 rfl (by kernel_rfl) (by kernel_rfl) (by kernel_rfl) rfl rfl rfl (YldA.assign rfl) ?_
                    exact ANx.doneC () (by kernel_rfl) ⟨rfl, trivial⟩ trivial ⟨rfl, rfl, rfl, rfl, rfl, trivial⟩ ⟨rfl, rfl, rfl, trivial⟩
                · -- 10
                  refine Stpx.effX rfl rfl (EffX.callW [0] [0] [0] rfl rfl Tryd.call86 rfl (impl_Decimal_c (by omega) (by omega)) (.own rfl) rfl (fun _ => rfl) ⟨rfl, trivial⟩ rfl (fun _ => rfl) (fun _ => rfl)) ?_
                  rintro _ ⟨⟨⟩, hu16, rfl⟩
                  refine ANx.all (rs := [6]) (by kernel_rfl) rfl ⟨?_, trivial⟩
                  refine Stpx.eff rfl rfl (Eff.yld (Yld.cat rfl rfl (by first | (simp only [List.length_append, List.length_cons, List.length_nil]; omega) | omega)) rfl rfl) ?_
                  refine ANx.all (rs := [7]) (by kernel_rfl) rfl ⟨?_, trivial⟩
                  refine Stpx.eff rfl rfl (Eff.yld (Yld.cat rfl rfl (by first | (simp only [List.length_append, List.length_cons, List.length_nil]; omega) | omega)) rfl rfl) ?_
                  refine ANx.all (rs := [11]) (by kernel_rfl) rfl ⟨?_, trivial⟩
                  refine Stpx.eff rfl rfl (Eff.yld (Yld.cat rfl rfl (by first | (simp only [List.length_append, List.length_cons, List.length_nil]; omega) | omega)) rfl rfl) ?_
                  refine ANx.take 12 rfl (by kernel_rfl) (by kernel_rfl) (by kernel_rfl) rfl rfl rfl (YldA.assign rfl) ?_
                  exact ANx.doneC () (by kernel_rfl) ⟨rfl, trivial⟩ trivial ⟨rfl, rfl, rfl, rfl, rfl, trivial⟩ ⟨rfl, rfl, rfl, trivial⟩
            · -- 9
              refine Stpx.eff rfl rfl (Eff.yld (Yld.load Tryd.isAgg2 rfl rfl) rfl rfl) ?_
              refine ANx.all (rs := [2, 10]) (by kernel_rfl) rfl ⟨?_, ?_, trivial⟩
              · -- 2
                refine Stpx.eff rfl rfl (Eff.yld (Yld.cat rfl rfl (by first | (simp only [List.length_append, List.length_cons, List.length_nil]; omega) | omega)) rfl rfl) ?_
                refine ANx.all (rs := [6, 10]) (by kernel_rfl) rfl ⟨?_, ?_, trivial⟩
                · -- 6
                  refine Stpx.eff rfl rfl (Eff.yld (Yld.cat rfl rfl (by first | (simp only [List.length_append, List.length_cons, List.length_nil]; omega) | omega)) rfl rfl) ?_
                  refine ANx.all (rs := [7, 10]) (by kernel_rfl) rfl ⟨?_, ?_, trivial⟩
                  · -- 7
                    refine Stpx.eff rfl rfl (Eff.yld (Yld.cat rfl rfl (by first | (simp only [List.length_append, List.length_cons, List.length_nil]; omega) | omega)) rfl rfl) ?_
                    refine ANx.all (rs := [10]) (by kernel_rfl) rfl ⟨?_, trivial⟩
                    refine Stpx.effX rfl rfl (EffX.callW [0] [0] [0] rfl rfl Tryd.call86 rfl (impl_Decimal_c (by omega) (by omega)) (.own rfl) rfl (fun _ => rfl) ⟨rfl, trivial⟩ rfl (fun _ => rfl) (fun _ => rfl)) ?_
                    rintro _ ⟨⟨⟩, hu16, rfl⟩
                    refine ANx.all (rs := [11]) (by kernel_rfl) rfl ⟨?_, trivial⟩
                    refine Stpx.eff rfl rfl (Eff.yld (Yld.cat rfl rfl (by first | (simp only [List.length_append, List.length_cons, List.length_nil]; omega) | omega)) rfl rfl) ?_
                    refine ANx.take 12 rfl (by kernel_rfl) (by kernel_rfl) (by kernel_rfl) rfl rfl rfl (YldA.assign rfl) ?_
                    exact ANx.doneC () (by kernel_rfl) ⟨rfl, trivial⟩ trivial ⟨rfl, rfl, rfl, rfl, rfl, trivial⟩ ⟨rfl, rfl, rfl, trivial⟩
                  · -- 10
                    refine Stpx.effX rfl rfl (EffX.callW [0] [0] [0] rfl rfl Tryd.call86 rfl (impl_Decimal_c (by omega) (by omega)) (.own rfl) rfl (fun _ => rfl) ⟨rfl, trivial⟩ rfl (fun _ => rfl) (fun _ => rfl)) ?_
                    rintro _ ⟨⟨⟩, hu16, rfl⟩
                    refine ANx.all (rs := [7]) (by kernel_rfl) rfl ⟨?_, trivial⟩
                    refine Stpx.eff rfl rfl (Eff.yld (Yld.cat rfl rfl (by first | (simp only [List.length_append, List.length_cons, List.length_nil]; omega) | omega)) rfl rfl) ?_
                    refine ANx.all (rs := [11]) (by kernel_rfl) rfl ⟨?_, trivial⟩
                    refine Stpx.eff rfl rfl (Eff.yld (Yld.cat rfl rfl (by first | (simp only [List.length_append, List.length_cons, List.length_nil]; omega) | omega)) rfl rfl) ?_
                    refine ANx.take 12 rfl (by kernel_rfl) (by kernel_rfl) (by kernel_rfl) rfl rfl rfl (YldA.assign rfl) ?_
                    exact ANx.doneC () (by kernel_rfl) ⟨rfl, trivial⟩ trivial ⟨rfl, rfl, rfl, rfl, rfl, trivial⟩ ⟨rfl, rfl, rfl, trivial⟩
                · -- 10
                  refine Stpx.effX rfl rfl (EffX.callW [0] [0] [0] rfl rfl Tryd.call86 rfl (impl_Decimal_c (by omega) (by omega)) (.own rfl) rfl (fun _ => rfl) ⟨rfl, trivial⟩ rfl (fun _ => rfl) (fun _ => rfl)) ?_
                  rintro _ ⟨⟨⟩, hu16, rfl⟩
                  refine ANx.all (rs := [6]) (by kernel_rfl) rfl ⟨?_, trivial⟩
                  refine Stpx.eff rfl rfl (Eff.yld (Yld.cat rfl rfl (by first | (simp only [List.length_append, List.length_cons, List.length_nil]; omega) | omega)) rfl rfl) ?_
                  refine ANx.all (rs := [7]) (by kernel_rfl) rfl ⟨?_, trivial⟩
                  refine Stpx.eff rfl rfl (Eff.yld (Yld.cat rfl rfl (by first | (simp only [List.length_append, List.length_cons, List.length_nil]; omega) | omega)) rfl rfl) ?_
                  refine ANx.all (rs := [11]) (by kernel_rfl) rfl ⟨?_, trivial⟩
                  refine Stpx.eff rfl rfl (Eff.yld (Yld.cat rfl rfl (by first | (simp only [List.length_append, List.length_cons, List.length_nil]; omega) | omega)) rfl rfl) ?_
                  refine ANx.take 12 rfl (by kernel_rfl) (by kernel_rfl) (by kernel_rfl) rfl rfl rfl (YldA.assign rfl) ?_
                  exact ANx.doneC () (by kernel_rfl) ⟨rfl, trivial⟩ trivial ⟨rfl, rfl, rfl, rfl, rfl, trivial⟩ ⟨rfl, rfl, rfl, trivial⟩
              · -- 10
                refine Stpx.effX rfl rfl (EffX.callW [0] [0] [0] rfl rfl Tryd.call86 rfl (impl_Decimal_c (by omega) (by omega)) (.own rfl) rfl (fun _ => rfl) ⟨rfl, trivial⟩ rfl (fun _ => rfl) (fun _ => rfl)) ?_
                rintro _ ⟨⟨⟩, hu16, rfl⟩
                refine ANx.all (rs := [2]) (by kernel_rfl) rfl ⟨?_, trivial⟩
                refine Stpx.eff rfl rfl (Eff.yld (Yld.cat rfl rfl (by first | (simp only [List.length_append, List.length_cons, List.length_nil]; omega) | omega)) rfl rfl) ?_
                refine ANx.all (rs := [6]) (by kernel_rfl) rfl ⟨?_, trivial⟩
                refine Stpx.eff rfl rfl (Eff.yld (Yld.cat rfl rfl (by first | (simp only [List.length_append, List.length_cons, List.length_nil]; omega) | omega)) rfl rfl) ?_
                refine ANx.all (rs := [7]) (by kernel_rfl) rfl ⟨?_, trivial⟩
                refine Stpx.eff rfl rfl (Eff.yld (Yld.cat rfl rfl (by first | (simp only [List.length_append, List.length_cons, List.length_nil]; omega) | omega)) rfl rfl) ?_
                refine ANx.all (rs := [11]) (by kernel_rfl) rfl ⟨?_, trivial⟩
                refine Stpx.eff rfl rfl (Eff.yld (Yld.cat rfl rfl (by first | (simp only [List.length_append, List.length_cons, List.length_nil]; omega) | omega)) rfl rfl) ?_
                refine ANx.take 12 rfl (by kernel_rfl) (by kernel_rfl) (by kernel_rfl) rfl rfl rfl (YldA.assign rfl) ?_
                exact ANx.doneC () (by kernel_rfl) ⟨rfl, trivial⟩ trivial ⟨rfl, rfl, rfl, rfl, rfl, trivial⟩ ⟨rfl, rfl, rfl, trivial⟩
          · -- 9
            refine Stpx.eff rfl rfl (Eff.yld (Yld.load Tryd.isAgg2 rfl rfl) rfl rfl) ?_
            refine ANx.all (rs := [2, 5]) (by kernel_rfl) rfl ⟨?_, ?_, trivial⟩
            · -- 2
              refine Stpx.eff rfl rfl (Eff.yld (Yld.cat rfl rfl (by first | (simp only [List.length_append, List.length_cons, List.length_nil]; omega) | omega)) rfl rfl) ?_
              refine ANx.all (rs := [5]) (by kernel_rfl) rfl ⟨?_, trivial⟩
              refine Stpx.effX rfl rfl (EffX.callW [0] [0] [0] rfl rfl Tryd.call86 rfl (impl_Decimal_c (by omega) (by omega)) (.own rfl) rfl (fun _ => rfl) ⟨rfl, trivial⟩ rfl (fun _ => rfl) (fun _ => rfl)) ?_
              rintro _ ⟨⟨⟩, hu11, rfl⟩
              refine ANx.all (rs := [6, 10]) (by kernel_rfl) rfl ⟨?_, ?_, trivial⟩
              · -- 6
                refine Stpx.eff rfl rfl (Eff.yld (Yld.cat rfl rfl (by first | (simp only [List.length_append, List.length_cons, List.length_nil]; omega) | omega)) rfl rfl) ?_
                refine ANx.all (rs := [7, 10]) (by kernel_rfl) rfl ⟨?_, ?_, trivial⟩
                · -- 7
                  refine Stpx.eff rfl rfl (Eff.yld (Yld.cat rfl rfl (by first | (simp only [List.length_append, List.length_cons, List.length_nil]; omega) | omega)) rfl rfl) ?_
                  refine ANx.all (rs := [10]) (by kernel_rfl) rfl ⟨?_, trivial⟩
                  refine Stpx.effX rfl rfl (EffX.callW [0] [0] [0] rfl rfl Tryd.call86 rfl (impl_Decimal_c (by omega) (by omega)) (.own rfl) rfl (fun _ => rfl) ⟨rfl, trivial⟩ rfl (fun _ => rfl) (fun _ => rfl)) ?_
                  rintro _ ⟨⟨⟩, hu16, rfl⟩
                  refine ANx.all (rs := [11]) (by kernel_rfl) rfl ⟨?_, trivial⟩
                  refine Stpx.eff rfl rfl (Eff.yld (Yld.cat rfl rfl (by first | (simp only [List.length_append, List.length_cons, List.length_nil]; omega) | omega)) rfl rfl) ?_
                  refine ANx.take 12 rfl (by kernel_rfl) (by kernel_rfl) (by kernel_rfl) rfl rfl rfl (YldA.assign rfl) ?_
                  exact ANx.doneC () (by kernel_rfl) ⟨rfl, trivial⟩ trivial ⟨rfl, rfl, rfl, rfl, rfl, trivial⟩ ⟨rfl, rfl, rfl, trivial⟩
                · -- 10
                  refine Stpx.effX rfl rfl (EffX.callW [0] [0] [0] rfl rfl Tryd.call86 rfl (impl_Decimal_c (by omega) (by omega)) (.own rfl) rfl (fun _ => rfl) ⟨rfl, trivial⟩ rfl (fun _ => rfl) (fun _ => rfl)) ?_
                  rintro _ ⟨⟨⟩, hu16, rfl⟩
                  refine ANx.all (rs := [7]) (by kernel_rfl) rfl ⟨?_, trivial⟩
                  refine Stpx.eff rfl rfl (Eff.yld (Yld.cat rfl rfl (by first | (simp only [List.length_append, List.length_cons, List.length_nil]; omega) | omega)) rfl rfl) ?_
                  refine ANx.all (rs := [11]) (by kernel_rfl) rfl ⟨?_, trivial⟩
                  refine Stpx.eff rfl rfl (Eff.yld (Yld.cat rfl rfl (by first | (simp only [List.length_append, List.length_cons, List.length_nil]; omega) | omega)) rfl rfl) ?_
                  refine ANx.take 12 rfl (by kernel_rfl) (by kernel_rfl) (by kernel_rfl) rfl rfl rfl (YldA.assign rfl) ?_
                  exact ANx.doneC () (by kernel_rfl) ⟨rfl, trivial⟩ trivial ⟨rfl, rfl, rfl, rfl, rfl, trivial⟩ ⟨rfl, rfl, rfl, trivial⟩
              · -- 10
                refine Stpx.effX rfl rfl (EffX.callW [0] [0] [0] rfl rfl Tryd.call86 rfl (impl_Decimal_c (by omega) (by omega)) (.own rfl) rfl (fun _ => rfl) ⟨rfl, trivial⟩ rfl (fun _ => rfl) (fun _ => rfl)) ?_
                rintro _ ⟨⟨⟩, hu16, rfl⟩
                refine ANx.all (rs := [6]) (by kernel_rfl) rfl ⟨?_, trivial⟩
                refine Stpx.eff rfl rfl (Eff.yld (Yld.cat rfl rfl (by first | (simp only [List.length_append, List.length_cons, List.length_nil]; omega) | omega)) rfl rfl) ?_
                refine ANx.all (rs := [7]) (by kernel_rfl) rfl ⟨?_, trivial⟩
                refine Stpx.eff rfl rfl (Eff.yld (Yld.cat rfl rfl (by first | (simp only [List.length_append, List.length_cons, List.length_nil]; omega) | omega)) rfl rfl) ?_
                refine ANx.all (rs := [11]) (by kernel_rfl) rfl ⟨?_, trivial⟩
                refine Stpx.eff rfl rfl (Eff.yld (Yld.cat rfl rfl (by first | (simp only [List.length_append, List.length_cons, List.length_nil]; omega) | omega)) rfl rfl) ?_
                refine ANx.take 12 rfl (by kernel_rfl) (by kernel_rfl) (by kernel_rfl) rfl rfl rfl (YldA.assign rfl) ?_
                exact ANx.doneC () (by kernel_rfl) ⟨rfl, trivial⟩ trivial ⟨rfl, rfl, rfl, rfl, rfl, trivial⟩ ⟨rfl, rfl, rfl, trivial⟩
            · -- 5
              refine Stpx.effX rfl rfl (EffX.callW [0] [0] [0] rfl rfl Tryd.call86 rfl (impl_Decimal_c (by omega) (by omega)) (.own rfl) rfl (fun _ => rfl) ⟨rfl, trivial⟩ rfl (fun _ => rfl) (fun _ => rfl)) ?_
              rintro _ ⟨⟨⟩, hu11, rfl⟩
              refine ANx.all (rs := [2, 10]) (by kernel_rfl) rfl ⟨?_, ?_, trivial⟩
              · -- 2
                refine Stpx.eff rfl rfl (Eff.yld (Yld.cat rfl rfl (by first | (simp only [List.length_append, List.length_cons, List.length_nil]; omega) | omega)) rfl rfl) ?_
                refine ANx.all (rs := [6, 10]) (by kernel_rfl) rfl ⟨?_, ?_, trivial⟩
                · -- 6
                  refine Stpx.eff rfl rfl (Eff.yld (Yld.cat rfl rfl (by first | (simp only [List.length_append, List.length_cons, List.length_nil]; omega) | omega)) rfl rfl) ?_
                  refine ANx.all (rs := [7, 10]) (by kernel_rfl) rfl ⟨?_, ?_, trivial⟩
                  · -- 7
                    refine Stpx.eff rfl rfl (Eff.yld (Yld.cat rfl rfl (by first | (simp only [List.length_append, List.length_cons, List.length_nil]; omega) | omega)) rfl rfl) ?_
                    refine ANx.all (rs := [10]) (by kernel_rfl) rfl ⟨?_, trivial⟩
                    refine Stpx.effX rfl rfl (EffX.callW [0] [0] [0] rfl rfl Tryd.call86 rfl (impl_Decimal_c (by omega) (by omega)) (.own rfl) rfl (fun _ => rfl) ⟨rfl, trivial⟩ rfl (fun _ => rfl) (fun _ => rfl)) ?_
                    rintro _ ⟨⟨⟩, hu16, rfl⟩
                    refine ANx.all (rs := [11]) (by kernel_rfl) rfl ⟨?_, trivial⟩
                    refine Stpx.eff rfl rfl (Eff.yld (Yld.cat rfl rfl (by first | (simp only [List.length_append, List.length_cons, List.length_nil]; omega) | omega)) rfl rfl) ?_
                    refine ANx.take 12 rfl (by kernel_rfl) (by kernel_rfl) (by kernel_rfl) rfl rfl rfl (YldA.assign rfl) ?_
                    exact ANx.doneC () (by kernel_rfl) ⟨rfl, trivial⟩ trivial ⟨rfl, rfl, rfl, rfl, rfl, trivial⟩ ⟨rfl, rfl, rfl, trivial⟩
                  · -- 10
                    refine Stpx.effX rfl rfl (EffX.callW [0] [0] [0] rfl rfl Tryd.call86 rfl (impl_Decimal_c (by omega) (by omega)) (.own rfl) rfl (fun _ => rfl) ⟨rfl, trivial⟩ rfl (fun _ => rfl) (fun _ => rfl)) ?_
                    rintro _ ⟨⟨⟩, hu16, rfl⟩
                    refine ANx.all (rs := [7]) (by kernel_rfl) rfl ⟨?_, trivial⟩
                    refine Stpx.eff rfl rfl (Eff.yld (Yld.cat rfl rfl (by first | (simp only [List.length_append, List.length_cons, List.length_nil]; omega) | omega)) rfl rfl) ?_
                    refine ANx.all (rs := [11]) (by kernel_rfl) rfl ⟨?_, trivial⟩
                    refine Stpx.eff rfl rfl (Eff.yld (Yld.cat rfl rfl (by first | (simp only [List.length_append, List.length_cons, List.length_nil]; omega) | omega)) rfl rfl) ?_
                    refine ANx.take 12 rfl (by kernel_rfl) (by kernel_rfl) (by kernel_rfl) rfl rfl rfl (YldA.assign rfl) ?_
                    exact ANx.doneC () (by kernel_rfl) ⟨rfl, trivial⟩ trivial ⟨rfl, rfl, rfl, rfl, rfl, trivial⟩ ⟨rfl, rfl, rfl, trivial⟩
                · -- 10
                  refine Stpx.effX rfl rfl (EffX.callW [0] [0] [0] rfl rfl Tryd.call86 rfl (impl_Decimal_c (by omega) (by omega)) (.own rfl) rfl (fun _ => rfl) ⟨rfl, trivial⟩ rfl (fun _ => rfl) (fun _ => rfl)) ?_
                  rintro _ ⟨⟨⟩, hu16, rfl⟩
                  refine ANx.all (rs := [6]) (by kernel_rfl) rfl ⟨?_, trivial⟩
                  refine Stpx.eff rfl rfl (Eff.yld (Yld.cat rfl rfl (by first | (simp only [List.length_append, List.length_cons, List.length_nil]; omega) | omega)) rfl rfl) ?_
                  refine ANx.all (rs := [7]) (by kernel_rfl) rfl ⟨?_, trivial⟩
                  refine Stpx.eff rfl rfl (Eff.yld (Yld.cat rfl rfl (by first | (simp only [List.length_append, List.length_cons, List.length_nil]; omega) | omega)) rfl rfl) ?_
                  refine ANx.all (rs := [11]) (by kernel_rfl) rfl ⟨?_, trivial⟩
                  refine Stpx.eff rfl rfl (Eff.yld (Yld.cat rfl rfl (by first | (simp only [List.length_append, List.length_cons, List.length_nil]; omega) | omega)) rfl rfl) ?_
                  refine ANx.take 12 rfl (by kernel_rfl) (by kernel_rfl) (by kernel_rfl) rfl rfl rfl (YldA.assign rfl) ?_
                  exact ANx.doneC () (by kernel_rfl) ⟨rfl, trivial⟩ trivial ⟨rfl, rfl, rfl, rfl, rfl, trivial⟩ ⟨rfl, rfl, rfl, trivial⟩
              · -- 10
                refine Stpx.effX rfl rfl (EffX.callW [0] [0] [0] rfl rfl Tryd.call86 rfl (impl_Decimal_c (by omega) (by omega)) (.own rfl) rfl (fun _ => rfl) ⟨rfl, trivial⟩ rfl (fun _ => rfl) (fun _ => rfl)) ?_
                rintro _ ⟨⟨⟩, hu16, rfl⟩
                refine ANx.all (rs := [2]) (by kernel_rfl) rfl ⟨?_, trivial⟩
                refine Stpx.eff rfl rfl (Eff.yld (Yld.cat rfl rfl (by first | (simp only [List.length_append, List.length_cons, List.length_nil]; omega) | omega)) rfl rfl) ?_
                refine ANx.all (rs := [6]) (by kernel_rfl) rfl ⟨?_, trivial⟩
                refine Stpx.eff rfl rfl (Eff.yld (Yld.cat rfl rfl (by first | (simp only [List.length_append, List.length_cons, List.length_nil]; omega) | omega)) rfl rfl) ?_
                refine ANx.all (rs := [7]) (by kernel_rfl) rfl ⟨?_, trivial⟩
                refine Stpx.eff rfl rfl (Eff.yld (Yld.cat rfl rfl (by first | (simp only [List.length_append, List.length_cons, List.length_nil]; omega) | omega)) rfl rfl) ?_
                refine ANx.all (rs := [11]) (by kernel_rfl) rfl ⟨?_, trivial⟩
                refine Stpx.eff rfl rfl (Eff.yld (Yld.cat rfl rfl (by first | (simp only [List.length_append, List.length_cons, List.length_nil]; omega) | omega)) rfl rfl) ?_
                refine ANx.take 12 rfl (by kernel_rfl) (by kernel_rfl) (by kernel_rfl) rfl rfl rfl (YldA.assign rfl) ?_
                exact ANx.doneC () (by kernel_rfl) ⟨rfl, trivial⟩ trivial ⟨rfl, rfl, rfl, rfl, rfl, trivial⟩ ⟨rfl, rfl, rfl, trivial⟩
        · -- 5
          refine Stpx.effX rfl rfl (EffX.callW [0] [0] [0] rfl rfl Tryd.call86 rfl (impl_Decimal_c (by omega) (by omega)) (.own rfl) rfl (fun _ => rfl) ⟨rfl, trivial⟩ rfl (fun _ => rfl) (fun _ => rfl)) ?_
          rintro _ ⟨⟨⟩, hu11, rfl⟩
          refine ANx.all (rs := [1, 9]) (by kernel_rfl) rfl ⟨?_, ?_, trivial⟩
          · -- 1
            refine Stpx.eff rfl rfl (Eff.yld (Yld.load Tryd.isAgg9 rfl rfl) rfl rfl) ?_
            refine ANx.all (rs := [2, 9]) (by kernel_rfl) rfl ⟨?_, ?_, trivial⟩
            · -- 2
              refine Stpx.eff rfl rfl (Eff.yld (Yld.cat rfl rfl (by first | (simp only [List.length_append, List.length_cons, List.length_nil]; omega) | omega)) rfl rfl) ?_
              refine ANx.all (rs := [6, 9]) (by kernel_rfl) rfl ⟨?_, ?_, trivial⟩
              · -- 6
                refine Stpx.eff rfl rfl (Eff.yld (Yld.cat rfl rfl (by first | (simp only [List.length_append, List.length_cons, List.length_nil]; omega) | omega)) rfl rfl) ?_
                refine ANx.all (rs := [7, 9]) (by kernel_rfl) rfl ⟨?_, ?_, trivial⟩
                · -- 7
                  refine Stpx.eff rfl rfl (Eff.yld (Yld.cat rfl rfl (by first | (simp only [List.length_append, List.length_cons, List.length_nil]; omega) | omega)) rfl rfl) ?_
                  refine ANx.all (rs := [9]) (by kernel_rfl) rfl ⟨?_, trivial⟩
                  refine Stpx.eff rfl rfl (Eff.yld (Yld.load Tryd.isAgg2 rfl rfl) rfl rfl) ?_
                  refine ANx.all (rs := [10]) (by kernel_rfl) rfl ⟨?_, trivial⟩
                  refine Stpx.effX rfl rfl (EffX.callW [0] [0] [0] rfl rfl Tryd.call86 rfl (impl_Decimal_c (by omega) (by omega)) (.own rfl) rfl (fun _ => rfl) ⟨rfl, trivial⟩ rfl (fun _ => rfl) (fun _ => rfl)) ?_
                  rintro _ ⟨⟨⟩, hu16, rfl⟩
                  refine ANx.all (rs := [11]) (by kernel_rfl) rfl ⟨?_, trivial⟩
                  refine Stpx.eff rfl rfl (Eff.yld (Yld.cat rfl rfl (by first | (simp only [List.length_append, List.length_cons, List.length_nil]; omega) | omega)) rfl rfl) ?_
                  refine ANx.take 12 rfl (by kernel_rfl) (by kernel_rfl) (by kernel_rfl) rfl rfl rfl (YldA.assign rfl) ?_
                  exact ANx.doneC () (by kernel_rfl) ⟨rfl, trivial⟩ trivial ⟨rfl, rfl, rfl, rfl, rfl, trivial⟩ ⟨rfl, rfl, rfl, trivial⟩
                · -- 9
                  refine Stpx.eff rfl rfl (Eff.yld (Yld.load Tryd.isAgg2 rfl rfl) rfl rfl) ?_
                  refine ANx.all (rs := [7, 10]) (by kernel_rfl) rfl ⟨?_, ?_, trivial⟩
                  · -- 7
                    refine Stpx.eff rfl rfl (Eff.yld (Yld.cat rfl rfl (by first | (simp only [List.length_append, List.length_cons, List.length_nil]; omega) | omega)) rfl rfl) ?_
                    refine ANx.all (rs := [10]) (by kernel_rfl) rfl ⟨?_, trivial⟩
                    refine Stpx.effX rfl rfl (EffX.callW [0] [0] [0] rfl rfl Tryd.call86 rfl (impl_Decimal_c (by omega) (by omega)) (.own rfl) rfl (fun _ => rfl) ⟨rfl, trivial⟩ rfl (fun _ => rfl) (fun _ => rfl)) ?_
                    rintro _ ⟨⟨⟩, hu16, rfl⟩
                    refine ANx.all (rs := [11]) (by kernel_rfl) rfl ⟨?_, trivial⟩
                    refine Stpx.eff rfl rfl (Eff.yld (Yld.cat rfl rfl (by first | (simp only [List.length_append, List.length_cons, List.length_nil]; omega) | omega)) rfl rfl) ?_
                    refine ANx.take 12 rfl (by kernel_rfl) (by kernel_rfl) (by kernel_rfl) rfl rfl rfl (YldA.assign rfl) ?_
                    exact ANx.doneC () (by kernel_rfl) ⟨rfl, trivial⟩ trivial ⟨rfl, rfl, rfl, rfl, rfl, trivial⟩ ⟨rfl, rfl, rfl, trivial⟩
                  · -- 10
                    refine Stpx.effX rfl rfl (EffX.callW [0] [0] [0] rfl rfl Tryd.call86 rfl (impl_Decimal_c (by omega) (by omega)) (.own rfl) rfl (fun _ => rfl) ⟨rfl, trivial⟩ rfl (fun _ => rfl) (fun _ => rfl)) ?_
                    rintro _ ⟨⟨⟩, hu16, rfl⟩
                    refine ANx.all (rs := [7]) (by kernel_rfl) rfl ⟨?_, trivial⟩
                    refine Stpx.eff rfl rfl (Eff.yld (Yld.cat rfl rfl (by first | (simp only [List.length_append, List.length_cons, List.length_nil]; omega) | omega)) rfl rfl) ?_
                    refine ANx.all (rs := [11]) (by kernel_rfl) rfl ⟨?_, trivial⟩
                    refine Stpx.eff rfl rfl (Eff.yld (Yld.cat rfl rfl (by first | (simp only [List.length_append, List.length_cons, List.length_nil]; omega) | omega)) rfl rfl) ?_
                    refine ANx.take 12 rfl (by kernel_rfl) (by kernel_rfl) (by kernel_rfl) rfl rfl rfl (YldA.assign rfl) ?_
                    exact ANx.doneC () (by kernel_rfl) ⟨rfl, trivial⟩ trivial ⟨rfl, rfl, rfl, rfl, rfl, trivial⟩ ⟨rfl, rfl, rfl, trivial⟩
              · -- 9
                refine Stpx.eff rfl rfl (Eff.yld (Yld.load Tryd.isAgg2 rfl rfl) rfl rfl) ?_
                refine ANx.all (rs := [6, 10]) (by kernel_rfl) rfl ⟨?_, ?_, trivial⟩
                · -- 6
                  refine Stpx.eff rfl rfl (Eff.yld (Yld.cat rfl rfl (by first | (simp only [List.length_append, List.length_cons, List.length_nil]; omega) | omega)) rfl rfl) ?_
                  refine ANx.all (rs := [7, 10]) (by kernel_rfl) rfl ⟨?_, ?_, trivial⟩
                  · -- 7
                    refine Stpx.eff rfl rfl (Eff.yld (Yld.cat rfl rfl (by first | (simp only [List.length_append, List.length_cons, List.length_nil]; omega) | omega)) rfl rfl) ?_
                    refine ANx.all (rs := [10]) (by kernel_rfl) rfl ⟨?_, trivial⟩
                    refine Stpx.effX rfl rfl (EffX.callW [0] [0] [0] rfl rfl Tryd.call86 rfl (impl_Decimal_c (by omega) (by omega)) (.own rfl) rfl (fun _ => rfl) ⟨rfl, trivial⟩ rfl (fun _ => rfl) (fun _ => rfl)) ?_
                    rintro _ ⟨⟨⟩, hu16, rfl⟩
                    refine ANx.all (rs := [11]) (by kernel_rfl) rfl ⟨?_, trivial⟩
                    refine Stpx.eff rfl rfl (Eff.yld (Yld.cat rfl rfl (by first | (simp only [List.length_append, List.length_cons, List.length_nil]; omega) | omega)) rfl rfl) ?_
                    refine ANx.take 12 rfl (by kernel_rfl) (by kernel_rfl) (by kernel_rfl) rfl rfl rfl (YldA.assign rfl) ?_
                    exact ANx.doneC () (by kernel_rfl) ⟨rfl, trivial⟩ trivial ⟨rfl, rfl, rfl, rfl, rfl, trivial⟩ ⟨rfl, rfl, rfl, trivial⟩
                  · -- 10
                    refine Stpx.effX rfl rfl (EffX.callW [0] [0] [0] rfl rfl Tryd.call86 rfl (impl_Decimal_c (by omega) (by omega)) (.own rfl) rfl (fun _ => rfl) ⟨rfl, trivial⟩ rfl (fun _ => rfl) (fun _ => rfl)) ?_
                    rintro _ ⟨⟨⟩, hu16, rfl⟩
                    refine ANx.all (rs := [7]) (by kernel_rfl) rfl ⟨?_, trivial⟩
                    refine Stpx.eff rfl rfl (Eff.yld (Yld.cat rfl rfl (by first | (simp only [List.length_append, List.length_cons, List.length_nil]; omega) | omega)) rfl rfl) ?_
                    refine ANx.all (rs := [11]) (by kernel_rfl) rfl ⟨?_, trivial⟩
                    refine Stpx.eff rfl rfl (Eff.yld (Yld.cat rfl rfl (by first | (simp only [List.length_append, List.length_cons, List.length_nil]; omega) | omega)) rfl rfl) ?_
                    refine ANx.take 12 rfl (by kernel_rfl) (by kernel_rfl) (by kernel_rfl) rfl rfl rfl (YldA.assign rfl) ?_
                    exact ANx.doneC () (by kernel_rfl) ⟨rfl, trivial⟩ trivial ⟨rfl, rfl, rfl, rfl, rfl, trivial⟩ ⟨rfl, rfl, rfl, trivial⟩
                · -- 10
                  refine Stpx.effX rfl rfl (EffX.callW [0] [0] [0] rfl rfl Tryd.call86 rfl (impl_Decimal_c (by omega) (by omega)) (.own rfl) rfl (fun _ => rfl) ⟨rfl, trivial⟩ rfl (fun _ => rfl) (fun _ => rfl)) ?_
                  rintro _ ⟨⟨⟩, hu16, rfl⟩
                  refine ANx.all (rs := [6]) (by kernel_rfl) rfl ⟨?_, trivial⟩
                  refine Stpx.eff rfl rfl (Eff.yld (Yld.cat rfl rfl (by first | (simp only [List.length_append, List.length_cons, List.length_nil]; omega) | omega)) rfl rfl) ?_
                  refine ANx.all (rs := [7]) (by kernel_rfl) rfl ⟨?_, trivial⟩
                  refine Stpx.eff rfl rfl (Eff.yld (Yld.cat rfl rfl (by first | (simp only [List.length_append, List.length_cons, List.length_nil]; omega) | omega)) rfl rfl) ?_
                  refine ANx.all (rs := [11]) (by kernel_rfl) rfl ⟨?_, trivial⟩
                  refine Stpx.eff rfl rfl (Eff.yld (Yld.cat rfl rfl (by first | (simp only [List.length_append, List.length_cons, List.length_nil]; omega) | omega)) rfl rfl) ?_
                  refine ANx.take 12 rfl (by kernel_rfl) (by kernel_rfl) (by kernel_rfl) rfl rfl rfl (YldA.assign rfl) ?_
                  exact ANx.doneC () (by kernel_rfl) ⟨rfl, trivial⟩ trivial ⟨rfl, rfl, rfl, rfl, rfl, trivial⟩ ⟨rfl, rfl, rfl, trivial⟩
            · -- 9
              refine Stpx.eff rfl rfl (Eff.yld (Yld.load Tryd.isAgg2 rfl rfl) rfl rfl) ?_
              refine ANx.all (rs := [2, 10]) (by kernel_rfl) rfl ⟨?_, ?_, trivial⟩
              · -- 2
                refine Stpx.eff rfl rfl (Eff.yld (Yld.cat rfl rfl (by first | (simp only [List.length_append, List.length_cons, List.length_nil]; omega) | omega)) rfl rfl) ?_
                refine ANx.all (rs := [6, 10]) (by kernel_rfl) rfl ⟨?_, ?_, trivial⟩
                · -- 6
                  refine Stpx.eff rfl rfl (Eff.yld (Yld.cat rfl rfl (by first | (simp only [List.length_append, List.length_cons, List.length_nil]; omega) | omega)) rfl rfl) ?_
                  refine ANx.all (rs := [7, 10]) (by kernel_rfl) rfl ⟨?_, ?_, trivial⟩
                  · -- 7
                    refine Stpx.eff rfl rfl (Eff.yld (Yld.cat rfl rfl (by first | (simp only [List.length_append, List.length_cons, List.length_nil]; omega) | omega)) rfl rfl) ?_
                    refine ANx.all (rs := [10]) (by kernel_rfl) rfl ⟨?_, trivial⟩
                    refine Stpx.effX rfl rfl (EffX.callW [0] [0] [0] rfl rfl Tryd.call86 rfl (impl_Decimal_c (by omega) (by omega)) (.own rfl) rfl (fun _ => rfl) ⟨rfl, trivial⟩ rfl (fun _ => rfl) (fun _ => rfl)) ?_
                    rintro _ ⟨⟨⟩, hu16, rfl⟩
                    refine ANx.all (rs := [11]) (by kernel_rfl) rfl ⟨?_, trivial⟩
                    refine Stpx.eff rfl rfl (Eff.yld (Yld.cat rfl rfl (by first | (simp only [List.length_append, List.length_cons, List.length_nil]; omega) | omega)) rfl rfl) ?_
                    refine ANx.take 12 rfl (by kernel_rfl) (by kernel_rfl) (by kernel_rfl) rfl rfl rfl (YldA.assign rfl) ?_
                    exact ANx.doneC () (by kernel_rfl) ⟨rfl, trivial⟩ trivial ⟨rfl, rfl, rfl, rfl, rfl, trivial⟩ ⟨rfl, rfl, rfl, trivial⟩
                  · -- 10
                    refine Stpx.effX rfl rfl (EffX.callW [0] [0] [0] rfl rfl Tryd.call86 rfl (impl_Decimal_c (by omega) (by omega)) (.own rfl) rfl (fun _ => rfl) ⟨rfl, trivial⟩ rfl (fun _ => rfl) (fun _ => rfl)) ?_
                    rintro _ ⟨⟨⟩, hu16, rfl⟩
                    refine ANx.all (rs := [7]) (by kernel_rfl) rfl ⟨?_, trivial⟩
                    refine Stpx.eff rfl rfl (Eff.yld (Yld.cat rfl rfl (by first | (simp only [List.length_append, List.length_cons, List.length_nil]; omega) | omega)) rfl rfl) ?_
                    refine ANx.all (rs := [11]) (by kernel_rfl) rfl ⟨?_, trivial⟩
                    refine Stpx.eff rfl rfl (Eff.yld (Yld.cat rfl rfl (by first | (simp only [List.length_append, List.length_cons, List.length_nil]; omega) | omega)) rfl rfl) ?_
                    refine ANx.take 12 rfl (by kernel_rfl) (by kernel_rfl) (by kernel_rfl) rfl rfl rfl (YldA.assign rfl) ?_
                    exact ANx.doneC () (by kernel_rfl) ⟨rfl, trivial⟩ trivial ⟨rfl, rfl, rfl, rfl, rfl, trivial⟩ ⟨rfl, rfl, rfl, trivial⟩
                · -- 10
                  refine Stpx.effX rfl rfl (EffX.callW [0] [0] [0] rfl rfl Tryd.call86 rfl (impl_Decimal_c (by omega) (by omega)) (.own rfl) rfl (fun _ => rfl) ⟨rfl, trivial⟩ rfl (fun _ => rfl) (fun _ => rfl)) ?_
                  rintro _ ⟨⟨⟩, hu16, rfl⟩
                  refine ANx.all (rs := [6]) (by kernel_rfl) rfl ⟨?_, trivial⟩
                  refine Stpx.eff rfl rfl (Eff.yld (Yld.cat rfl rfl (by first | (simp only [List.length_append, List.length_cons, List.length_nil]; omega) | omega)) rfl rfl) ?_
                  refine ANx.all (rs := [7]) (by kernel_rfl) rfl ⟨?_, trivial⟩
                  refine Stpx.eff rfl rfl (Eff.yld (Yld.cat rfl rfl (by first | (simp only [List.length_append, List.length_cons, List.length_nil]; omega) | omega)) rfl rfl) ?_
                  refine ANx.all (rs := [11]) (by kernel_rfl) rfl ⟨?_, trivial⟩
                  refine Stpx.eff rfl rfl (Eff.yld (Yld.cat rfl rfl (by first | (simp only [List.length_append, List.length_cons, List.length_nil]; omega) | omega)) rfl rfl) ?_
                  refine ANx.take 12 rfl (by kernel_rfl) (by kernel_rfl) (by kernel_rfl) rfl rfl rfl (YldA.assign rfl) ?_
                  exact ANx.doneC () (by kernel_rfl) ⟨rfl, trivial⟩ trivial ⟨rfl, rfl, rfl, rfl, rfl, trivial⟩ ⟨rfl, rfl, rfl, trivial⟩
              · -- 10
                refine Stpx.effX rfl rfl (EffX.callW [0] [0] [0] rfl rfl Tryd.call86 rfl (impl_Decimal_c (by omega) (by omega)) (.own rfl) rfl (fun _ => rfl) ⟨rfl, trivial⟩ rfl (fun _ => rfl) (fun _ => rfl)) ?_
                rintro _ ⟨⟨⟩, hu16, rfl⟩
                refine ANx.all (rs := [2]) (by kernel_rfl) rfl ⟨?_, trivial⟩
                refine Stpx.eff rfl rfl (Eff.yld (Yld.cat rfl rfl (by first | (simp only [List.length_append, List.length_cons, List.length_nil]; omega) | omega)) rfl rfl) ?_
                refine ANx.all (rs := [6]) (by kernel_rfl) rfl ⟨?_, trivial⟩
                refine Stpx.eff rfl rfl (Eff.yld (Yld.cat rfl rfl (by first | (simp only [List.length_append, List.length_cons, List.length_nil]; omega) | omega)) rfl rfl) ?_
                refine ANx.all (rs := [7]) (by kernel_rfl) rfl ⟨?_, trivial⟩
                refine Stpx.eff rfl rfl (Eff.yld (Yld.cat rfl rfl (by first | (simp only [List.length_append, List.length_cons, List.length_nil]; omega) | omega)) rfl rfl) ?_
                refine ANx.all (rs := [11]) (by kernel_rfl) rfl ⟨?_, trivial⟩
                refine Stpx.eff rfl rfl (Eff.yld (Yld.cat rfl rfl (by first | (simp only [List.length_append, List.length_cons, List.length_nil]; omega) | omega)) rfl rfl) ?_
                refine ANx.take 12 rfl (by kernel_rfl) (by kernel_rfl) (by kernel_rfl) rfl rfl rfl (YldA.assign rfl) ?_
                exact ANx.doneC () (by kernel_rfl) ⟨rfl, trivial⟩ trivial ⟨rfl, rfl, rfl, rfl, rfl, trivial⟩ ⟨rfl, rfl, rfl, trivial⟩
          · -- 9
            refine Stpx.eff rfl rfl (Eff.yld (Yld.load Tryd.isAgg2 rfl rfl) rfl rfl) ?_
            refine ANx.all (rs := [1, 10]) (by kernel_rfl) rfl ⟨?_, ?_, trivial⟩
            · -- 1
              refine Stpx.eff rfl rfl (Eff.yld (Yld.load Tryd.isAgg9 rfl rfl) rfl rfl) ?_
              refine ANx.all (rs := [2, 10]) (by kernel_rfl) rfl ⟨?_, ?_, trivial⟩
              · -- 2
                refine Stpx.eff rfl rfl (Eff.yld (Yld.cat rfl rfl (by first | (simp only [List.length_append, List.length_cons, List.length_nil]; omega) | omega)) rfl rfl) ?_
                refine ANx.all (rs := [6, 10]) (by kernel_rfl) rfl ⟨?_, ?_, trivial⟩
                · -- 6
                  refine Stpx.eff rfl rfl (Eff.yld (Yld.cat rfl rfl (by first | (simp only [List.length_append, List.length_cons, List.length_nil]; omega) | omega)) rfl rfl) ?_
                  refine ANx.all (rs := [7, 10]) (by kernel_rfl) rfl ⟨?_, ?_, trivial⟩
                  · -- 7
                    refine Stpx.eff rfl rfl (Eff.yld (Yld.cat rfl rfl (by first | (simp only [List.length_append, List.length_cons, List.length_nil]; omega) | omega)) rfl rfl) ?_
                    refine ANx.all (rs := [10]) (by kernel_rfl) rfl ⟨?_, trivial⟩
                    refine Stpx.effX rfl rfl (EffX.callW [0] [0] [0] rfl rfl Tryd.call86 rfl (impl_Decimal_c (by omega) (by omega)) (.own rfl) rfl (fun _ => rfl) ⟨rfl, trivial⟩ rfl (fun _ => rfl) (fun _ => rfl)) ?_
                    rintro _ ⟨⟨⟩, hu16, rfl⟩
                    refine ANx.all (rs := [11]) (by kernel_rfl) rfl ⟨?_, trivial⟩
                    refine Stpx.eff rfl rfl (Eff.yld (Yld.cat rfl rfl (by first | (simp only [List.length_append, List.length_cons, List.length_nil]; omega) | omega)) rfl rfl) ?_
                    refine ANx.take 12 rfl (by kernel_rfl) (by kernel_rfl) (by kernel_rfl) rfl rfl rfl (YldA.assign rfl) ?_
                    exact ANx.doneC () (by kernel_rfl) ⟨rfl, trivial⟩ trivial ⟨rfl, rfl, rfl, rfl, rfl, trivial⟩ ⟨rfl, rfl, rfl, trivial⟩
                  · -- 10
                    refine Stpx.effX rfl rfl (EffX.callW [0] [0] [0] rfl rfl Tryd.call86 rfl (impl_Decimal_c (by omega) (by omega)) (.own rfl) rfl (fun _ => rfl) ⟨rfl, trivial⟩ rfl (fun _ => rfl) (fun _ => rfl)) ?_
                    rintro _ ⟨⟨⟩, hu16, rfl⟩
                    refine ANx.all (rs := [7]) (by kernel_rfl) rfl ⟨?_, trivial⟩
                    refine Stpx.eff rfl rfl (Eff.yld (Yld.cat rfl rfl (by first | (simp only [List.length_append, List.length_cons, List.length_nil]; omega) | omega)) rfl rfl) ?_
                    refine ANx.all (rs := [11]) (by kernel_rfl) rfl ⟨?_, trivial⟩
                    refine Stpx.eff rfl rfl (Eff.yld (Yld.cat rfl rfl (by first | (simp only [List.length_append, List.length_cons, List.length_nil]; omega) | omega)) rfl rfl) ?_
                    refine ANx.take 12 rfl (by kernel_rfl) (by kernel_rfl) (by kernel_rfl) rfl rfl rfl (YldA.assign rfl) ?_
                    exact ANx.doneC () (by kernel_rfl) ⟨rfl, trivial⟩ trivial ⟨rfl, rfl, rfl, rfl, rfl, trivial⟩ ⟨rfl, rfl, rfl, trivial⟩
                · -- 10
                  refine Stpx.effX rfl rfl (EffX.callW [0] [0] [0] rfl rfl Tryd.call86 rfl (impl_Decimal_c (by omega) (by omega)) (.own rfl) rfl (fun _ => rfl) ⟨rfl, trivial⟩ rfl (fun _ => rfl) (fun _ => rfl)) ?_
                  rintro _ ⟨⟨⟩, hu16, rfl⟩
                  refine ANx.all (rs := [6]) (by kernel_rfl) rfl ⟨?_, trivial⟩
                  refine Stpx.eff rfl rfl (Eff.yld (Yld.cat rfl rfl (by first | (simp only [List.length_append, List.length_cons, List.length_nil]; omega) | omega)) rfl rfl) ?_
                  refine ANx.all (rs := [7]) (by kernel_rfl) rfl ⟨?_, trivial⟩
                  refine Stpx.eff rfl rfl (Eff.yld (Yld.cat rfl rfl (by first | (simp only [List.length_append, List.length_cons, List.length_nil]; omega) | omega)) rfl rfl) ?_
                  refine ANx.all (rs := [11]) (by kernel_rfl) rfl ⟨?_, trivial⟩
                  refine Stpx.eff rfl rfl (Eff.yld (Yld.cat rfl rfl (by first | (simp only [List.length_append, List.length_cons, List.length_nil]; omega) | omega)) rfl rfl) ?_
                  refine ANx.take 12 rfl (by kernel_rfl) (by kernel_rfl) (by kernel_rfl) rfl rfl rfl (YldA.assign rfl) ?_
                  exact ANx.doneC () (by kernel_rfl) ⟨rfl, trivial⟩ trivial ⟨rfl, rfl, rfl, rfl, rfl, trivial⟩ ⟨rfl, rfl, rfl, trivial⟩
              · -- 10
                refine Stpx.effX rfl rfl (EffX.callW [0] [0] [0] rfl rfl Tryd.call86 rfl (impl_Decimal_c (by omega) (by omega)) (.own rfl) rfl (fun _ => rfl) ⟨rfl, trivial⟩ rfl (fun _ => rfl) (fun _ => rfl)) ?_
                rintro _ ⟨⟨⟩, hu16, rfl⟩
                refine ANx.all (rs := [2]) (by kernel_rfl) rfl ⟨?_, trivial⟩
                refine Stpx.eff rfl rfl (Eff.yld (Yld.cat rfl rfl (by first | (simp only [List.length_append, List.length_cons, List.length_nil]; omega) | omega)) rfl rfl) ?_
                refine ANx.all (rs := [6]) (by kernel_rfl) rfl ⟨?_, trivial⟩
                refine Stpx.eff rfl rfl (Eff.yld (Yld.cat rfl rfl (by first | (simp only [List.length_append, List.length_cons, List.length_nil]; omega) | omega)) rfl rfl) ?_
                refine ANx.all (rs := [7]) (by kernel_rfl) rfl ⟨?_, trivial⟩
                refine Stpx.eff rfl rfl (Eff.yld (Yld.cat rfl rfl (by first | (simp only [List.length_append, List.length_cons, List.length_nil]; omega) | omega)) rfl rfl) ?_
                refine ANx.all (rs := [11]) (by kernel_rfl) rfl ⟨?_, trivial⟩
                refine Stpx.eff rfl rfl (Eff.yld (Yld.cat rfl rfl (by first | (simp only [List.length_append, List.length_cons, List.length_nil]; omega) | omega)) rfl rfl) ?_
                refine ANx.take 12 rfl (by kernel_rfl) (by kernel_rfl) (by kernel_rfl) rfl rfl rfl (YldA.assign rfl) ?_
                exact ANx.doneC () (by kernel_rfl) ⟨rfl, trivial⟩ trivial ⟨rfl, rfl, rfl, rfl, rfl, trivial⟩ ⟨rfl, rfl, rfl, trivial⟩
            · -- 10
              refine Stpx.effX rfl rfl (EffX.callW [0] [0] [0] rfl rfl Tryd.call86 rfl (impl_Decimal_c (by omega) (by omega)) (.own rfl) rfl (fun _ => rfl) ⟨rfl, trivial⟩ rfl (fun _ => rfl) (fun _ => rfl)) ?_
              rintro _ ⟨⟨⟩, hu16, rfl⟩
              refine ANx.all (rs := [1]) (by kernel_rfl) rfl ⟨?_, trivial⟩
              refine Stpx.eff rfl rfl (Eff.yld (Yld.load Tryd.isAgg9 rfl rfl) rfl rfl) ?_
              refine ANx.all (rs := [2]) (by kernel_rfl) rfl ⟨?_, trivial⟩
              refine Stpx.eff rfl rfl (Eff.yld (Yld.cat rfl rfl (by first | (simp only [List.length_append, List.length_cons, List.length_nil]; omega) | omega)) rfl rfl) ?_
              refine ANx.all (rs := [6]) (by kernel_rfl) rfl ⟨?_, trivial⟩
              refine Stpx.eff rfl rfl (Eff.yld (Yld.cat rfl rfl (by first | (simp only [List.length_append, List.length_cons, List.length_nil]; omega) | omega)) rfl rfl) ?_
              refine ANx.all (rs := [7]) (by kernel_rfl) rfl ⟨?_, trivial⟩
              refine Stpx.eff rfl rfl (Eff.yld (Yld.cat rfl rfl (by first | (simp only [List.length_append, List.length_cons, List.length_nil]; omega) | omega)) rfl rfl) ?_
              refine ANx.all (rs := [11]) (by kernel_rfl) rfl ⟨?_, trivial⟩
              refine Stpx.eff rfl rfl (Eff.yld (Yld.cat rfl rfl (by first | (simp only [List.length_append, List.length_cons, List.length_nil]; omega) | omega)) rfl rfl) ?_
              refine ANx.take 12 rfl (by kernel_rfl) (by kernel_rfl) (by kernel_rfl) rfl rfl rfl (YldA.assign rfl) ?_
              exact ANx.doneC () (by kernel_rfl) ⟨rfl, trivial⟩ trivial ⟨rfl, rfl, rfl, rfl, rfl, trivial⟩ ⟨rfl, rfl, rfl, trivial⟩
        · -- 9
          refine Stpx.eff rfl rfl (Eff.yld (Yld.load Tryd.isAgg2 rfl rfl) rfl rfl) ?_
          refine ANx.all (rs := [1, 5]) (by kernel_rfl) rfl ⟨?_, ?_, trivial⟩
          · -- 1
            refine Stpx.eff rfl rfl (Eff.yld (Yld.load Tryd.isAgg9 rfl rfl) rfl rfl) ?_
            refine ANx.all (rs := [2, 5]) (by kernel_rfl) rfl ⟨?_, ?_, trivial⟩
            · -- 2
              refine Stpx.eff rfl rfl (Eff.yld (Yld.cat rfl rfl (by first | (simp only [List.length_append, List.length_cons, List.length_nil]; omega) | omega)) rfl rfl) ?_
              refine ANx.all (rs := [5]) (by kernel_rfl) rfl ⟨?_, trivial⟩
              refine Stpx.effX rfl rfl (EffX.callW [0] [0] [0] rfl rfl Tryd.call86 rfl (impl_Decimal_c (by omega) (by omega)) (.own rfl) rfl (fun _ => rfl) ⟨rfl, trivial⟩ rfl (fun _ => rfl) (fun _ => rfl)) ?_
              rintro _ ⟨⟨⟩, hu11, rfl⟩
              refine ANx.all (rs := [6, 10]) (by kernel_rfl) rfl ⟨?_, ?_, trivial⟩
              · -- 6
                refine Stpx.eff rfl rfl (Eff.yld (Yld.cat rfl rfl (by first | (simp only [List.length_append, List.length_cons, List.length_nil]; omega) | omega)) rfl rfl) ?_
                refine ANx.all (rs := [7, 10]) (by kernel_rfl) rfl ⟨?_, ?_, trivial⟩
                · -- 7
                  refine Stpx.eff rfl rfl (Eff.yld (Yld.cat rfl rfl (by first | (simp only [List.length_append, List.length_cons, List.length_nil]; omega) | omega)) rfl rfl) ?_
                  refine ANx.all (rs := [10]) (by kernel_rfl) rfl ⟨?_, trivial⟩
                  refine Stpx.effX rfl rfl (EffX.callW [0] [0] [0] rfl rfl Tryd.call86 rfl (impl_Decimal_c (by omega) (by omega)) (.own rfl) rfl (fun _ => rfl) ⟨rfl, trivial⟩ rfl (fun _ => rfl) (fun _ => rfl)) ?_
                  rintro _ ⟨⟨⟩, hu16, rfl⟩
                  refine ANx.all (rs := [11]) (by kernel_rfl) rfl ⟨?_, trivial⟩
                  refine Stpx.eff rfl rfl (Eff.yld (Yld.cat rfl rfl (by first | (simp only [List.length_append, List.length_cons, List.length_nil]; omega) | omega)) rfl rfl) ?_
                  refine ANx.take 12 rfl (by kernel_rfl) (by kernel_rfl) (by kernel_rfl) rfl rfl rfl (YldA.assign rfl) ?_
                  exact ANx.doneC () (by kernel_rfl) ⟨rfl, trivial⟩ trivial ⟨rfl, rfl, rfl, rfl, rfl, trivial⟩ ⟨rfl, rfl, rfl, trivial⟩
                · -- 10
                  refine Stpx.effX rfl rfl (EffX.callW [0] [0] [0] rfl rfl Tryd.call86 rfl (impl_Decimal_c (by omega) (by omega)) (.own rfl) rfl (fun _ => rfl) ⟨rfl, trivial⟩ rfl (fun _ => rfl) (fun _ => rfl)) ?_
                  rintro _ ⟨⟨⟩, hu16, rfl⟩
                  refine ANx.all (rs := [7]) (by kernel_rfl) rfl ⟨?_, trivial⟩
                  refine Stpx.eff rfl rfl (Eff.yld (Yld.cat rfl rfl (by first | (simp only [List.length_append, List.length_cons, List.length_nil]; omega) | omega)) rfl rfl) ?_
                  refine ANx.all (rs := [11]) (by kernel_rfl) rfl ⟨?_, trivial⟩
                  refine Stpx.eff rfl rfl (Eff.yld (Yld.cat rfl rfl (by first | (simp only [List.length_append, List.length_cons, List.length_nil]; omega) | omega)) rfl rfl) ?_
                  refine ANx.take 12 rfl (by kernel_rfl) (by kernel_rfl) (by kernel_rfl) rfl rfl rfl (YldA.assign rfl) ?_
                  exact ANx.doneC () (by kernel_rfl) ⟨rfl, trivial⟩ trivial ⟨rfl, rfl, rfl, rfl, rfl, trivial⟩ ⟨rfl, rfl, rfl, trivial⟩
              · -- 10
                refine Stpx.effX rfl rfl (EffX.callW [0] [0] [0] rfl rfl Tryd.call86 rfl (impl_Decimal_c (by omega) (by omega)) (.own rfl) rfl (fun _ => rfl) ⟨rfl, trivial⟩ rfl (fun _ => rfl) (fun _ => rfl)) ?_
                rintro _ ⟨⟨⟩, hu16, rfl⟩
                refine ANx.all (rs := [6]) (by kernel_rfl) rfl ⟨?_, trivial⟩
                refine Stpx.eff rfl rfl (Eff.yld (Yld.cat rfl rfl (by first | (simp only [List.length_append, List.length_cons, List.length_nil]; omega) | omega)) rfl rfl) ?_
                refine ANx.all (rs := [7]) (by kernel_rfl) rfl ⟨?_, trivial⟩
                refine Stpx.eff rfl rfl (Eff.yld (Yld.cat rfl rfl (by first | (simp only [List.length_append, List.length_cons, List.length_nil]; omega) | omega)) rfl rfl) ?_
                refine ANx.all (rs := [11]) (by kernel_rfl) rfl ⟨?_, trivial⟩
                refine Stpx.eff rfl rfl (Eff.yld (Yld.cat rfl rfl (by first | (simp only [List.length_append, List.length_cons, List.length_nil]; omega) | omega)) rfl rfl) ?_
                refine ANx.take 12 rfl (by kernel_rfl) (by kernel_rfl) (by kernel_rfl) rfl rfl rfl (YldA.assign rfl) ?_
                exact ANx.doneC () (by kernel_rfl) ⟨rfl, trivial⟩ trivial ⟨rfl, rfl, rfl, rfl, rfl, trivial⟩ ⟨rfl, rfl, rfl, trivial⟩
            · -- 5
              refine Stpx.effX rfl rfl (EffX.callW [0] [0] [0] rfl rfl Tryd.call86 rfl (impl_Decimal_c (by omega) (by omega)) (.own rfl) rfl (fun _ => rfl) ⟨rfl, trivial⟩ rfl (fun _ => rfl) (fun _ => rfl)) ?_
              rintro _ ⟨⟨⟩, hu11, rfl⟩
              refine ANx.all (rs := [2, 10]) (by kernel_rfl) rfl ⟨?_, ?_, trivial⟩
              · -- 2
                refine Stpx.eff rfl rfl (Eff.yld (Yld.cat rfl rfl (by first | (simp only [List.length_append, List.length_cons, List.length_nil]; omega) | omega)) rfl rfl) ?_
                refine ANx.all (rs := [6, 10]) (by kernel_rfl) rfl ⟨?_, ?_, trivial⟩
                · -- 6
                  refine Stpx.eff rfl rfl (Eff.yld (Yld.cat rfl rfl (by first | (simp only [List.length_append, List.length_cons, List.length_nil]; omega) | omega)) rfl rfl) ?_
                  refine ANx.all (rs := [7, 10]) (by kernel_rfl) rfl ⟨?_, ?_, trivial⟩
                  · -- 7
                    refine Stpx.eff rfl rfl (Eff.yld (Yld.cat rfl rfl (by first | (simp only [List.length_append, List.length_cons, List.length_nil]; omega) | omega)) rfl rfl) ?_
                    refine ANx.all (rs := [10]) (by kernel_rfl) rfl ⟨?_, trivial⟩
                    refine Stpx.effX rfl rfl (EffX.callW [0] [0] [0] rfl rfl Tryd.call86 rfl (impl_Decimal_c (by omega) (by omega)) (.own rfl) rfl (fun _ => rfl) ⟨rfl, trivial⟩ rfl (fun _ => rfl) (fun _ => rfl)) ?_
                    rintro _ ⟨⟨⟩, hu16, rfl⟩
                    refine ANx.all (rs := [11]) (by kernel_rfl) rfl ⟨?_, trivial⟩
                    refine Stpx.eff rfl rfl (Eff.yld (Yld.cat rfl rfl (by first | (simp only [List.length_append, List.length_cons, List.length_nil]; omega) | omega)) rfl rfl) ?_
                    refine ANx.take 12 rfl (by kernel_rfl) (by kernel_rfl) (by kernel_rfl) rfl rfl rfl (YldA.assign rfl) ?_
                    exact ANx.doneC () (by kernel_rfl) ⟨rfl, trivial⟩ trivial ⟨rfl, rfl, rfl, rfl, rfl, trivial⟩ ⟨rfl, rfl, rfl, trivial⟩
                  · -- 10
                    refine Stpx.effX rfl rfl (EffX.callW [0] [0] [0] rfl rfl Tryd.call86 rfl (impl_Decimal_c (by omega) (by omega)) (.own rfl) rfl (fun _ => rfl) ⟨rfl, trivial⟩ rfl (fun _ => rfl) (fun _ => rfl)) ?_
                    rintro _ ⟨⟨⟩, hu16, rfl⟩
                    refine ANx.all (rs := [7]) (by kernel_rfl) rfl ⟨?_, trivial⟩
                    refine Stpx.eff rfl rfl (Eff.yld (Yld.cat rfl rfl (by first | (simp only [List.length_append, List.length_cons, List.length_nil]; omega) | omega)) rfl rfl) ?_
                    refine ANx.all (rs := [11]) (by kernel_rfl) rfl ⟨?_, trivial⟩
                    refine Stpx.eff rfl rfl (Eff.yld (Yld.cat rfl rfl (by first | (simp only [List.length_append, List.length_cons, List.length_nil]; omega) | omega)) rfl rfl) ?_
                    refine ANx.take 12 rfl (by kernel_rfl) (by kernel_rfl) (by kernel_rfl) rfl rfl rfl (YldA.assign rfl) ?_
                    exact ANx.doneC () (by kernel_rfl) ⟨rfl, trivial⟩ trivial ⟨rfl, rfl, rfl, rfl, rfl, trivial⟩ ⟨rfl, rfl, rfl, trivial⟩
                · -- 10
                  refine Stpx.effX rfl rfl (EffX.callW [0] [0] [0] rfl rfl Tryd.call86 rfl (impl_Decimal_c (by omega) (by omega)) (.own rfl) rfl (fun _ => rfl) ⟨rfl, trivial⟩ rfl (fun _ => rfl) (fun _ => rfl)) ?_
                  rintro _ ⟨⟨⟩, hu16, rfl⟩
                  refine ANx.all (rs := [6]) (by kernel_rfl) rfl ⟨?_, trivial⟩
                  refine Stpx.eff rfl rfl (Eff.yld (Yld.cat rfl rfl (by first | (simp only [List.length_append, List.length_cons, List.length_nil]; omega) | omega)) rfl rfl) ?_
                  refine ANx.all (rs := [7]) (by kernel_rfl) rfl ⟨?_, trivial⟩
                  refine Stpx.eff rfl rfl (Eff.yld (Yld.cat rfl rfl (by first | (simp only [List.length_append, List.length_cons, List.length_nil]; omega) | omega)) rfl rfl) ?_
                  refine ANx.all (rs := [11]) (by kernel_rfl) rfl ⟨?_, trivial⟩
                  refine Stpx.eff rfl rfl (Eff.yld (Yld.cat rfl rfl (by first | (simp only [List.length_append, List.length_cons, List.length_nil]; omega) | omega)) rfl rfl) ?_
                  refine ANx.take 12 rfl (by kernel_rfl) (by kernel_rfl) (by kernel_rfl) rfl rfl rfl (YldA.assign rfl) ?_
                  exact ANx.doneC () (by kernel_rfl) ⟨rfl, trivial⟩ trivial ⟨rfl, rfl, rfl, rfl, rfl, trivial⟩ ⟨rfl, rfl, rfl, trivial⟩
              · -- 10
                refine Stpx.effX rfl rfl (EffX.callW [0] [0] [0] rfl rfl Tryd.call86 rfl (impl_Decimal_c (by omega) (by omega)) (.own rfl) rfl (fun _ => rfl) ⟨rfl, trivial⟩ rfl (fun _ => rfl) (fun _ => rfl)) ?_
                rintro _ ⟨⟨⟩, hu16, rfl⟩
                refine ANx.all (rs := [2]) (by kernel_rfl) rfl ⟨?_, trivial⟩
                refine Stpx.eff rfl rfl (Eff.yld (Yld.cat rfl rfl (by first | (simp only [List.length_append, List.length_cons, List.length_nil]; omega) | omega)) rfl rfl) ?_
                refine ANx.all (rs := [6]) (by kernel_rfl) rfl ⟨?_, trivial⟩
                refine Stpx.eff rfl rfl (Eff.yld (Yld.cat rfl rfl (by first | (simp only [List.length_append, List.length_cons, List.length_nil]; omega) | omega)) rfl rfl) ?_
                refine ANx.all (rs := [7]) (by kernel_rfl) rfl ⟨?_, trivial⟩
                refine Stpx.eff rfl rfl (Eff.yld (Yld.cat rfl rfl (by first | (simp only [List.length_append, List.length_cons, List.length_nil]; omega) | omega)) rfl rfl) ?_
                refine ANx.all (rs := [11]) (by kernel_rfl) rfl ⟨?_, trivial⟩
                refine Stpx.eff rfl rfl (Eff.yld (Yld.cat rfl rfl (by first | (simp only [List.length_append, List.length_cons, List.length_nil]; omega) | omega)) rfl rfl) ?_
                refine ANx.take 12 rfl (by kernel_rfl) (by kernel_rfl) (by kernel_rfl) rfl rfl rfl (YldA.assign rfl) ?_
                exact ANx.doneC () (by kernel_rfl) ⟨rfl, trivial⟩ trivial ⟨rfl, rfl, rfl, rfl, rfl, trivial⟩ ⟨rfl, rfl, rfl, trivial⟩
          · -- 5
            refine Stpx.effX rfl rfl (EffX.callW [0] [0] [0] rfl rfl Tryd.call86 rfl (impl_Decimal_c (by omega) (by omega)) (.own rfl) rfl (fun _ => rfl) ⟨rfl, trivial⟩ rfl (fun _ => rfl) (fun _ => rfl)) ?_
            rintro _ ⟨⟨⟩, hu11, rfl⟩
            refine ANx.all (rs := [1, 10]) (by kernel_rfl) rfl ⟨?_, ?_, trivial⟩
            · -- 1
              refine Stpx.eff rfl rfl (Eff.yld (Yld.load Tryd.isAgg9 rfl rfl) rfl rfl) ?_
              refine ANx.all (rs := [2, 10]) (by kernel_rfl) rfl ⟨?_, ?_, trivial⟩
              · -- 2
                refine Stpx.eff rfl rfl (Eff.yld (Yld.cat rfl rfl (by first | (simp only [List.length_append, List.length_cons, List.length_nil]; omega) | omega)) rfl rfl) ?_
                refine ANx.all (rs := [6, 10]) (by kernel_rfl) rfl ⟨?_, ?_, trivial⟩
                · -- 6
                  refine Stpx.eff rfl rfl (Eff.yld (Yld.cat rfl rfl (by first | (simp only [List.length_append, List.length_cons, List.length_nil]; omega) | omega)) rfl rfl) ?_
                  refine ANx.all (rs := [7, 10]) (by kernel_rfl) rfl ⟨?_, ?_, trivial⟩
                  · -- 7
                    refine Stpx.eff rfl rfl (Eff.yld (Yld.cat rfl rfl (by first | (simp only [List.length_append, List.length_cons, List.length_nil]; omega) | omega)) rfl rfl) ?_
                    refine ANx.all (rs := [10]) (by kernel_rfl) rfl ⟨?_, trivial⟩
                    refine Stpx.effX rfl rfl (EffX.callW [0] [0] [0] rfl rfl Tryd.call86 rfl (impl_Decimal_c (by omega) (by omega)) (.own rfl) rfl (fun _ => rfl) ⟨rfl, trivial⟩ rfl (fun _ => rfl) (fun _ => rfl)) ?_
                    rintro _ ⟨⟨⟩, hu16, rfl⟩
                    refine ANx.all (rs := [11]) (by kernel_rfl) rfl ⟨?_, trivial⟩
                    refine Stpx.eff rfl rfl (Eff.yld (Yld.cat rfl rfl (by first | (simp only [List.length_append, List.length_cons, List.length_nil]; omega) | omega)) rfl rfl) ?_
                    refine ANx.take 12 rfl (by kernel_rfl) (by kernel_rfl) (by kernel_rfl) rfl rfl rfl (YldA.assign rfl) ?_
                    exact ANx.doneC () (by kernel_rfl) ⟨rfl, trivial⟩ trivial ⟨rfl, rfl, rfl, rfl, rfl, trivial⟩ ⟨rfl, rfl, rfl, trivial⟩
                  · -- 10
                    refine Stpx.effX rfl rfl (EffX.callW [0] [0] [0] rfl rfl Tryd.call86 rfl (impl_Decimal_c (by omega) (by omega)) (.own rfl) rfl (fun _ => rfl) ⟨rfl, trivial⟩ rfl (fun _ => rfl) (fun _ => rfl)) ?_
                    rintro _ ⟨⟨⟩, hu16, rfl⟩
                    refine ANx.all (rs := [7]) (by kernel_rfl) rfl ⟨?_, trivial⟩
                    refine Stpx.eff rfl rfl (Eff.yld (Yld.cat rfl rfl (by first | (simp only [List.length_append, List.length_cons, List.length_nil]; omega) | omega)) rfl rfl) ?_
                    refine ANx.all (rs := [11]) (by kernel_rfl) rfl ⟨?_, trivial⟩
                    refine Stpx.eff rfl rfl (Eff.yld (Yld.cat rfl rfl (by first | (simp only [List.length_append, List.length_cons, List.length_nil]; omega) | omega)) rfl rfl) ?_
                    refine ANx.take 12 rfl (by kernel_rfl) (by kernel_rfl) (by kernel_rfl) rfl rfl rfl (YldA.assign rfl) ?_
                    exact ANx.doneC () (by kernel_rfl) ⟨rfl, trivial⟩ trivial ⟨rfl, rfl, rfl, rfl, rfl, trivial⟩ ⟨rfl, rfl, rfl, trivial⟩
                · -- 10
                  refine Stpx.effX rfl rfl (EffX.callW [0] [0] [0] rfl rfl Tryd.call86 rfl (impl_Decimal_c (by omega) (by omega)) (.own rfl) rfl (fun _ => rfl) ⟨rfl, trivial⟩ rfl (fun _ => rfl) (fun _ => rfl)) ?_
                  rintro _ ⟨⟨⟩, hu16, rfl⟩
                  refine ANx.all (rs := [6]) (by kernel_rfl) rfl ⟨?_, trivial⟩
                  refine Stpx.eff rfl rfl (Eff.yld (Yld.cat rfl rfl (by first | (simp only [List.length_append, List.length_cons, List.length_nil]; omega) | omega)) rfl rfl) ?_
                  refine ANx.all (rs := [7]) (by kernel_rfl) rfl ⟨?_, trivial⟩
                  refine Stpx.eff rfl rfl (Eff.yld (Yld.cat rfl rfl (by first | (simp only [List.length_append, List.length_cons, List.length_nil]; omega) | omega)) rfl rfl) ?_
                  refine ANx.all (rs := [11]) (by kernel_rfl) rfl ⟨?_, trivial⟩
                  refine Stpx.eff rfl rfl (Eff.yld (Yld.cat rfl rfl (by first | (simp only [List.length_append, List.length_cons, List.length_nil]; omega) | omega)) rfl rfl) ?_
                  refine ANx.take 12 rfl (by kernel_rfl) (by kernel_rfl) (by kernel_rfl) rfl rfl rfl (YldA.assign rfl) ?_
                  exact ANx.doneC () (by kernel_rfl) ⟨rfl, trivial⟩ trivial ⟨rfl, rfl, rfl, rfl, rfl, trivial⟩ ⟨rfl, rfl, rfl, trivial⟩
              · -- 10
                refine Stpx.effX rfl rfl (EffX.callW [0] [0] [0] rfl rfl Tryd.call86 rfl (impl_Decimal_c (by omega) (by omega)) (.own rfl) rfl (fun _ => rfl) ⟨rfl, trivial⟩ rfl (fun _ => rfl) (fun _ => rfl)) ?_
                rintro _ ⟨⟨⟩, hu16, rfl⟩
                refine ANx.all (rs := [2]) (by kernel_rfl) rfl ⟨?_, trivial⟩
                refine Stpx.eff rfl rfl (Eff.yld (Yld.cat rfl rfl (by first | (simp only [List.length_append, List.length_cons, List.length_nil]; omega) | omega)) rfl rfl) ?_
                refine ANx.all (rs := [6]) (by kernel_rfl) rfl ⟨?_, trivial⟩
                refine Stpx.eff rfl rfl (Eff.yld (Yld.cat rfl rfl (by first | (simp only [List.length_append, List.length_cons, List.length_nil]; omega) | omega)) rfl rfl) ?_
                refine ANx.all (rs := [7]) (by kernel_rfl) rfl ⟨?_, trivial⟩
                refine Stpx.eff rfl rfl (Eff.yld (Yld.cat rfl rfl (by first | (simp only [List.length_append, List.length_cons, List.length_nil]; omega) | omega)) rfl rfl) ?_
                refine ANx.all (rs := [11]) (by kernel_rfl) rfl ⟨?_, trivial⟩
                refine Stpx.eff rfl rfl (Eff.yld (Yld.cat rfl rfl (by first | (simp only [List.length_append, List.length_cons, List.length_nil]; omega) | omega)) rfl rfl) ?_
                refine ANx.take 12 rfl (by kernel_rfl) (by kernel_rfl) (by kernel_rfl) rfl rfl rfl (YldA.assign rfl) ?_
                exact ANx.doneC () (by kernel_rfl) ⟨rfl, trivial⟩ trivial ⟨rfl, rfl, rfl, rfl, rfl, trivial⟩ ⟨rfl, rfl, rfl, trivial⟩
            · -- 10
              refine Stpx.effX rfl rfl (EffX.callW [0] [0] [0] rfl rfl Tryd.call86 rfl (impl_Decimal_c (by omega) (by omega)) (.own rfl) rfl (fun _ => rfl) ⟨rfl, trivial⟩ rfl (fun _ => rfl) (fun _ => rfl)) ?_
              rintro _ ⟨⟨⟩, hu16, rfl⟩
              refine ANx.all (rs := [1]) (by kernel_rfl) rfl ⟨?_, trivial⟩
              refine Stpx.eff rfl rfl (Eff.yld (Yld.load Tryd.isAgg9 rfl rfl) rfl rfl) ?_
              refine ANx.all (rs := [2]) (by kernel_rfl) rfl ⟨?_, trivial⟩
              refine Stpx.eff rfl rfl (Eff.yld (Yld.cat rfl rfl (by first | (simp only [List.length_append, List.length_cons, List.length_nil]; omega) | omega)) rfl rfl) ?_
              refine ANx.all (rs := [6]) (by kernel_rfl) rfl ⟨?_, trivial⟩
              refine Stpx.eff rfl rfl (Eff.yld (Yld.cat rfl rfl (by first | (simp only [List.length_append, List.length_cons, List.length_nil]; omega) | omega)) rfl rfl) ?_
              refine ANx.all (rs := [7]) (by kernel_rfl) rfl ⟨?_, trivial⟩
              refine Stpx.eff rfl rfl (Eff.yld (Yld.cat rfl rfl (by first | (simp only [List.length_append, List.length_cons, List.length_nil]; omega) | omega)) rfl rfl) ?_
              refine ANx.all (rs := [11]) (by kernel_rfl) rfl ⟨?_, trivial⟩
              refine Stpx.eff rfl rfl (Eff.yld (Yld.cat rfl rfl (by first | (simp only [List.length_append, List.length_cons, List.length_nil]; omega) | omega)) rfl rfl) ?_
              refine ANx.take 12 rfl (by kernel_rfl) (by kernel_rfl) (by kernel_rfl) rfl rfl rfl (YldA.assign rfl) ?_
              exact ANx.doneC () (by kernel_rfl) ⟨rfl, trivial⟩ trivial ⟨rfl, rfl, rfl, rfl, rfl, trivial⟩ ⟨rfl, rfl, rfl, trivial⟩
      · -- 9
        refine Stpx.eff rfl rfl (Eff.yld (Yld.load Tryd.isAgg2 rfl rfl) rfl rfl) ?_
        refine ANx.all (rs := [1, 4]) (by kernel_rfl) rfl ⟨?_, ?_, trivial⟩
        · -- 1
          refine Stpx.eff rfl rfl (Eff.yld (Yld.load Tryd.isAgg9 rfl rfl) rfl rfl) ?_
          refine ANx.all (rs := [2, 4]) (by kernel_rfl) rfl ⟨?_, ?_, trivial⟩
          · -- 2
            refine Stpx.eff rfl rfl (Eff.yld (Yld.cat rfl rfl (by first | (simp only [List.length_append, List.length_cons, List.length_nil]; omega) | omega)) rfl rfl) ?_
            refine ANx.all (rs := [4]) (by kernel_rfl) rfl ⟨?_, trivial⟩
            refine Stpx.eff rfl rfl (Eff.yld (Yld.load Tryd.isAgg2 rfl rfl) rfl rfl) ?_
            refine ANx.all (rs := [5]) (by kernel_rfl) rfl ⟨?_, trivial⟩
            refine Stpx.effX rfl rfl (EffX.callW [0] [0] [0] rfl rfl Tryd.call86 rfl (impl_Decimal_c (by omega) (by omega)) (.own rfl) rfl (fun _ => rfl) ⟨rfl, trivial⟩ rfl (fun _ => rfl) (fun _ => rfl)) ?_
            rintro _ ⟨⟨⟩, hu11, rfl⟩
            refine ANx.all (rs := [6, 10]) (by kernel_rfl) rfl ⟨?_, ?_, trivial⟩
            · -- 6
              refine Stpx.eff rfl rfl (Eff.yld (Yld.cat rfl rfl (by first | (simp only [List.length_append, List.length_cons, List.length_nil]; omega) | omega)) rfl rfl) ?_
              refine ANx.all (rs := [7, 10]) (by kernel_rfl) rfl ⟨?_, ?_, trivial⟩
              · -- 7
                refine Stpx.eff rfl rfl (Eff.yld (Yld.cat rfl rfl (by first | (simp only [List.length_append, List.length_cons, List.length_nil]; omega) | omega)) rfl rfl) ?_
                refine ANx.all (rs := [10]) (by kernel_rfl) rfl ⟨?_, trivial⟩
                refine Stpx.effX rfl rfl (EffX.callW [0] [0] [0] rfl rfl Tryd.call86 rfl (impl_Decimal_c (by omega) (by omega)) (.own rfl) rfl (fun _ => rfl) ⟨rfl, trivial⟩ rfl (fun _ => rfl) (fun _ => rfl)) ?_
                rintro _ ⟨⟨⟩, hu16, rfl⟩
                refine ANx.all (rs := [11]) (by kernel_rfl) rfl ⟨?_, trivial⟩
                refine Stpx.eff rfl rfl (Eff.yld (Yld.cat rfl rfl (by first | (simp only [List.length_append, List.length_cons, List.length_nil]; omega) | omega)) rfl rfl) ?_
                refine ANx.take 12 rfl (by kernel_rfl) (by kernel_rfl) (by kernel_rfl) rfl rfl rfl (YldA.assign rfl) ?_
                exact ANx.doneC () (by kernel_rfl) ⟨rfl, trivial⟩ trivial ⟨rfl, rfl, rfl, rfl, rfl, trivial⟩ ⟨rfl, rfl, rfl, trivial⟩
              · -- 10
                refine Stpx.effX rfl rfl (EffX.callW [0] [0] [0] rfl rfl Tryd.call86 rfl (impl_Decimal_c (by omega) (by omega)) (.own rfl) rfl (fun _ => rfl) ⟨rfl, trivial⟩ rfl (fun _ => rfl) (fun _ => rfl)) ?_
                rintro _ ⟨⟨⟩, hu16, rfl⟩
                refine ANx.all (rs := [7]) (by kernel_rfl) rfl ⟨?_, trivial⟩
                refine Stpx.eff rfl rfl (Eff.yld (Yld.cat rfl rfl (by first | (simp only [List.length_append, List.length_cons, List.length_nil]; omega) | omega)) rfl rfl) ?_
                refine ANx.all (rs := [11]) (by kernel_rfl) rfl ⟨?_, trivial⟩
                refine Stpx.eff rfl rfl (Eff.yld (Yld.cat rfl rfl (by first | (simp only [List.length_append, List.length_cons, List.length_nil]; omega) | omega)) rfl rfl) ?_
                refine ANx.take 12 rfl (by kernel_rfl) (by kernel_rfl) (by kernel_rfl) rfl rfl rfl (YldA.assign rfl) ?_
                exact ANx.doneC () (by kernel_rfl) ⟨rfl, trivial⟩ trivial ⟨rfl, rfl, rfl, rfl, rfl, trivial⟩ ⟨rfl, rfl, rfl, trivial⟩
            · -- 10
              refine Stpx.effX rfl rfl (EffX.callW [0] [0] [0] rfl rfl Tryd.call86 rfl (impl_Decimal_c (by omega) (by omega)) (.own rfl) rfl (fun _ => rfl) ⟨rfl, trivial⟩ rfl (fun _ => rfl) (fun _ => rfl)) ?_
              rintro _ ⟨⟨⟩, hu16, rfl⟩
              refine ANx.all (rs := [6]) (by kernel_rfl) rfl ⟨?_, trivial⟩
              refine Stpx.eff rfl rfl (Eff.yld (Yld.cat rfl rfl (by first | (simp only [List.length_append, List.length_cons, List.length_nil]; omega) | omega)) rfl rfl) ?_
              refine ANx.all (rs := [7]) (by kernel_rfl) rfl ⟨?_, trivial⟩
              refine Stpx.eff rfl rfl (Eff.yld (Yld.cat rfl rfl (by first | (simp only [List.length_append, List.length_cons, List.length_nil]; omega) | omega)) rfl rfl) ?_
              refine ANx.all (rs := [11]) (by kernel_rfl) rfl ⟨?_, trivial⟩
              refine Stpx.eff rfl rfl (Eff.yld (Yld.cat rfl rfl (by first | (simp only [List.length_append, List.length_cons, List.length_nil]; omega) | omega)) rfl rfl) ?_
              refine ANx.take 12 rfl (by kernel_rfl) (by kernel_rfl) (by kernel_rfl) rfl rfl rfl (YldA.assign rfl) ?_
              exact ANx.doneC () (by kernel_rfl) ⟨rfl, trivial⟩ trivial ⟨rfl, rfl, rfl, rfl, rfl, trivial⟩ ⟨rfl, rfl, rfl, trivial⟩
          · -- 4
            refine Stpx.eff rfl rfl (Eff.yld (Yld.load Tryd.isAgg2 rfl rfl) rfl rfl) ?_
            refine ANx.all (rs := [2, 5]) (by kernel_rfl) rfl ⟨?_, ?_, trivial⟩
            · -- 2
              refine Stpx.eff rfl rfl (Eff.yld (Yld.cat rfl rfl (by first | (simp only [List.length_append, List.length_cons, List.length_nil]; omega) | omega)) rfl rfl) ?_
              refine ANx.all (rs := [5]) (by kernel_rfl) rfl ⟨?_, trivial⟩
              refine Stpx.effX rfl rfl (EffX.callW [0] [0] [0] rfl rfl Tryd.call86 rfl (impl_Decimal_c (by omega) (by omega)) (.own rfl) rfl (fun _ => rfl) ⟨rfl, trivial⟩ rfl (fun _ => rfl) (fun _ => rfl)) ?_
              rintro _ ⟨⟨⟩, hu11, rfl⟩
              refine ANx.all (rs := [6, 10]) (by kernel_rfl) rfl ⟨?_, ?_, trivial⟩
              · -- 6
                refine Stpx.eff rfl rfl (Eff.yld (Yld.cat rfl rfl (by first | (simp only [List.length_append, List.length_cons, List.length_nil]; omega) | omega)) rfl rfl) ?_
                refine ANx.all (rs := [7, 10]) (by kernel_rfl) rfl ⟨?_, ?_, trivial⟩
                · -- 7
                  refine Stpx.eff rfl rfl (Eff.yld (Yld.cat rfl rfl (by first | (simp only [List.length_append, List.length_cons, List.length_nil]; omega) | omega)) rfl rfl) ?_
                  refine ANx.all (rs := [10]) (by kernel_rfl) rfl ⟨?_, trivial⟩
                  refine Stpx.effX rfl rfl (EffX.callW [0] [0] [0] rfl rfl Tryd.call86 rfl (impl_Decimal_c (by omega) (by omega)) (.own rfl) rfl (fun _ => rfl) ⟨rfl, trivial⟩ rfl (fun _ => rfl) (fun _ => rfl)) ?_
                  rintro _ ⟨⟨⟩, hu16, rfl⟩
                  refine ANx.all (rs := [11]) (by kernel_rfl) rfl ⟨?_, trivial⟩
                  refine Stpx.eff rfl rfl (Eff.yld (Yld.cat rfl rfl (by first | (simp only [List.length_append, List.length_cons, List.length_nil]; omega) | omega)) rfl rfl) ?_
                  refine ANx.take 12 rfl (by kernel_rfl) (by kernel_rfl) (by kernel_rfl) rfl rfl rfl (YldA.assign rfl) ?_
                  exact ANx.doneC () (by kernel_rfl) ⟨rfl, trivial⟩ trivial ⟨rfl, rfl, rfl, rfl, rfl, trivial⟩ ⟨rfl, rfl, rfl, trivial⟩
                · -- 10
                  refine Stpx.effX rfl rfl (EffX.callW [0] [0] [0] rfl rfl Tryd.call86 rfl (impl_Decimal_c (by omega) (by omega)) (.own rfl) rfl (fun _ => rfl) ⟨rfl, trivial⟩ rfl (fun _ => rfl) (fun _ => rfl)) ?_
                  rintro _ ⟨⟨⟩, hu16, rfl⟩
                  refine ANx.all (rs := [7]) (by kernel_rfl) rfl ⟨?_, trivial⟩
                  refine Stpx.eff rfl rfl (Eff.yld (Yld.cat rfl rfl (by first | (simp only [List.length_append, List.length_cons, List.length_nil]; omega) | omega)) rfl rfl) ?_
                  refine ANx.all (rs := [11]) (by kernel_rfl) rfl ⟨?_, trivial⟩
                  refine Stpx.eff rfl rfl (Eff.yld (Yld.cat rfl rfl (by first | (simp only [List.length_append, List.length_cons, List.length_nil]; omega) | omega)) rfl rfl) ?_
                  refine ANx.take 12 rfl (by kernel_rfl) (by kernel_rfl) (by kernel_rfl) rfl rfl rfl (YldA.assign rfl) ?_
                  exact ANx.doneC () (by kernel_rfl) ⟨rfl, trivial⟩ trivial ⟨rfl, rfl, rfl, rfl, rfl, trivial⟩ ⟨rfl, rfl, rfl, trivial⟩
              · -- 10
                refine Stpx.effX rfl rfl (EffX.callW [0] [0] [0] rfl rfl Tryd.call86 rfl (impl_Decimal_c (by omega) (by omega)) (.own rfl) rfl (fun _ => rfl) ⟨rfl, trivial⟩ rfl (fun _ => rfl) (fun _ => rfl)) ?_
                rintro _ ⟨⟨⟩, hu16, rfl⟩
                refine ANx.all (rs := [6]) (by kernel_rfl) rfl ⟨?_, trivial⟩
                refine Stpx.eff rfl rfl (Eff.yld (Yld.cat rfl rfl (by first | (simp only [List.length_append, List.length_cons, List.length_nil]; omega) | omega)) rfl rfl) ?_
                refine ANx.all (rs := [7]) (by kernel_rfl) rfl ⟨?_, trivial⟩
                refine Stpx.eff rfl rfl (Eff.yld (Yld.cat rfl rfl (by first | (simp only [List.length_append, List.length_cons, List.length_nil]; omega) | omega)) rfl rfl) ?_
                refine ANx.all (rs := [11]) (by kernel_rfl) rfl ⟨?_, trivial⟩
                refine Stpx.eff rfl rfl (Eff.yld (Yld.cat rfl rfl (by first | (simp only [List.length_append, List.length_cons, List.length_nil]; omega) | omega)) rfl rfl) ?_
                refine ANx.take 12 rfl (by kernel_rfl) (by kernel_rfl) (by kernel_rfl) rfl rfl rfl (YldA.assign rfl) ?_
                exact ANx.doneC () (by kernel_rfl) ⟨rfl, trivial⟩ trivial ⟨rfl, rfl, rfl, rfl, rfl, trivial⟩ ⟨rfl, rfl, rfl, trivial⟩
            · -- 5
              refine Stpx.effX rfl rfl (EffX.callW [0] [0] [0] rfl rfl Tryd.call86 rfl (impl_Decimal_c (by omega) (by omega)) (.own rfl) rfl (fun _ => rfl) ⟨rfl, trivial⟩ rfl (fun _ => rfl) (fun _ => rfl)) ?_
              rintro _ ⟨⟨⟩, hu11, rfl⟩
              refine ANx.all (rs := [2, 10]) (by kernel_rfl) rfl ⟨?_, ?_, trivial⟩
              · -- 2
                refine Stpx.eff rfl rfl (Eff.yld (Yld.cat rfl rfl (by first | (simp only [List.length_append, List.length_cons, List.length_nil]; omega) | omega)) rfl rfl) ?_
                refine ANx.all (rs := [6, 10]) (by kernel_rfl) rfl ⟨?_, ?_, trivial⟩
                · -- 6
                  refine Stpx.eff rfl rfl (Eff.yld (Yld.cat rfl rfl (by first | (simp only [List.length_append, List.length_cons, List.length_nil]; omega) | omega)) rfl rfl) ?_
                  refine ANx.all (rs := [7, 10]) (by kernel_rfl) rfl ⟨?_, ?_, trivial⟩
                  · -- 7
                    refine Stpx.eff rfl rfl (Eff.yld (Yld.cat rfl rfl (by first | (simp only [List.length_append, List.length_cons, List.length_nil]; omega) | omega)) rfl rfl) ?_
                    refine ANx.all (rs := [10]) (by kernel_rfl) rfl ⟨?_, trivial⟩
                    refine Stpx.effX rfl rfl (EffX.callW [0] [0] [0] rfl rfl Tryd.call86 rfl (impl_Decimal_c (by omega) (by omega)) (.own rfl) rfl (fun _ => rfl) ⟨rfl, trivial⟩ rfl (fun _ => rfl) (fun _ => rfl)) ?_
                    rintro _ ⟨⟨⟩, hu16, rfl⟩
                    refine ANx.all (rs := [11]) (by kernel_rfl) rfl ⟨?_, trivial⟩
                    refine Stpx.eff rfl rfl (Eff.yld (Yld.cat rfl rfl (by first | (simp only [List.length_append, List.length_cons, List.length_nil]; omega) | omega)) rfl rfl) ?_
                    refine ANx.take 12 rfl (by kernel_rfl) (by kernel_rfl) (by kernel_rfl) rfl rfl rfl (YldA.assign rfl) ?_
                    exact ANx.doneC () (by kernel_rfl) ⟨rfl, trivial⟩ trivial ⟨rfl, rfl, rfl, rfl, rfl, trivial⟩ ⟨rfl, rfl, rfl, trivial⟩
                  · -- 10
                    refine Stpx.effX rfl rfl (EffX.callW [0] [0] [0] rfl rfl Tryd.call86 rfl (impl_Decimal_c (by omega) (by omega)) (.own rfl) rfl (fun _ => rfl) ⟨rfl, trivial⟩ rfl (fun _ => rfl) (fun _ => rfl)) ?_
                    rintro _ ⟨⟨⟩, hu16, rfl⟩
                    refine ANx.all (rs := [7]) (by kernel_rfl) rfl ⟨?_, trivial⟩
                    refine Stpx.eff rfl rfl (Eff.yld (Yld.cat rfl rfl (by first | (simp only [List.length_append, List.length_cons, List.length_nil]; omega) | omega)) rfl rfl) ?_
                    refine ANx.all (rs := [11]) (by kernel_rfl) rfl ⟨?_, trivial⟩
                    refine Stpx.eff rfl rfl (Eff.yld (Yld.cat rfl rfl (by first | (simp only [List.length_append, List.length_cons, List.length_nil]; omega) | omega)) rfl rfl) ?_
                    refine ANx.take 12 rfl (by kernel_rfl) (by kernel_rfl) (by kernel_rfl) rfl rfl rfl (YldA.assign rfl) ?_
                    exact ANx.doneC () (by kernel_rfl) ⟨rfl, trivial⟩ trivial ⟨rfl, rfl, rfl, rfl, rfl, trivial⟩ ⟨rfl, rfl, rfl, trivial⟩
                · -- 10
                  refine Stpx.effX rfl rfl (EffX.callW [0] [0] [0] rfl rfl Tryd.call86 rfl (impl_Decimal_c (by omega) (by omega)) (.own rfl) rfl (fun _ => rfl) ⟨rfl, trivial⟩ rfl (fun _ => rfl) (fun _ => rfl)) ?_
                  rintro _ ⟨⟨⟩, hu16, rfl⟩
                  refine ANx.all (rs := [6]) (by kernel_rfl) rfl ⟨?_, trivial⟩
                  refine Stpx.eff rfl rfl (Eff.yld (Yld.cat rfl rfl (by first | (simp only [List.length_append, List.length_cons, List.length_nil]; omega) | omega)) rfl rfl) ?_
                  refine ANx.all (rs := [7]) (by kernel_rfl) rfl ⟨?_, trivial⟩
                  refine Stpx.eff rfl rfl (Eff.yld (Yld.cat rfl rfl (by first | (simp only [List.length_append, List.length_cons, List.length_nil]; omega) | omega)) rfl rfl) ?_
                  refine ANx.all (rs := [11]) (by kernel_rfl) rfl ⟨?_, trivial⟩
                  refine Stpx.eff rfl rfl (Eff.yld (Yld.cat rfl rfl (by first | (simp only [List.length_append, List.length_cons, List.length_nil]; omega) | omega)) rfl rfl) ?_
                  refine ANx.take 12 rfl (by kernel_rfl) (by kernel_rfl) (by kernel_rfl) rfl rfl rfl (YldA.assign rfl) ?_
                  exact ANx.doneC () (by kernel_rfl) ⟨rfl, trivial⟩ trivial ⟨rfl, rfl, rfl, rfl, rfl, trivial⟩ ⟨rfl, rfl, rfl, trivial⟩
              · -- 10
                refine Stpx.effX rfl rfl (EffX.callW [0] [0] [0] rfl rfl Tryd.call86 rfl (impl_Decimal_c (by omega) (by omega)) (.own rfl) rfl (fun _ => rfl) ⟨rfl, trivial⟩ rfl (fun _ => rfl) (fun _ => rfl)) ?_
                rintro _ ⟨⟨⟩, hu16, rfl⟩
                refine ANx.all (rs := [2]) (by kernel_rfl) rfl ⟨?_, trivial⟩
                refine Stpx.eff rfl rfl (Eff.yld (Yld.cat rfl rfl (by first | (simp only [List.length_append, List.length_cons, List.length_nil]; omega) | omega)) rfl rfl) ?_
                refine ANx.all (rs := [6]) (by kernel_rfl) rfl ⟨?_, trivial⟩
                refine Stpx.eff rfl rfl (Eff.yld (Yld.cat rfl rfl (by first | (simp only [List.length_append, List.length_cons, List.length_nil]; omega) | omega)) rfl rfl) ?_
                refine ANx.all (rs := [7]) (by kernel_rfl) rfl ⟨?_, trivial⟩
                refine Stpx.eff rfl rfl (Eff.yld (Yld.cat rfl rfl (by first | (simp only [List.length_append, List.length_cons, List.length_nil]; omega) | omega)) rfl rfl) ?_
                refine ANx.all (rs := [11]) (by kernel_rfl) rfl ⟨?_, trivial⟩
                refine Stpx.eff rfl rfl (Eff.yld (Yld.cat rfl rfl (by first | (simp only [List.length_append, List.length_cons, List.length_nil]; omega) | omega)) rfl rfl) ?_
                refine ANx.take 12 rfl (by kernel_rfl) (by kernel_rfl) (by kernel_rfl) rfl rfl rfl (YldA.assign rfl) ?_
                exact ANx.doneC () (by kernel_rfl) ⟨rfl, trivial⟩ trivial ⟨rfl, rfl, rfl, rfl, rfl, trivial⟩ ⟨rfl, rfl, rfl, trivial⟩
        · -- 4
          refine Stpx.eff rfl rfl (Eff.yld (Yld.load Tryd.isAgg2 rfl rfl) rfl rfl) ?_
          refine ANx.all (rs := [1, 5]) (by kernel_rfl) rfl ⟨?_, ?_, trivial⟩
          · -- 1
            refine Stpx.eff rfl rfl (Eff.yld (Yld.load Tryd.isAgg9 rfl rfl) rfl rfl) ?_
            refine ANx.all (rs := [2, 5]) (by kernel_rfl) rfl ⟨?_, ?_, trivial⟩
            · -- 2
              refine Stpx.eff rfl rfl (Eff.yld (Yld.cat rfl rfl (by first | (simp only [List.length_append, List.length_cons, List.length_nil]; omega) | omega)) rfl rfl) ?_
              refine ANx.all (rs := [5]) (by kernel_rfl) rfl ⟨?_, trivial⟩
              refine Stpx.effX rfl rfl (EffX.callW [0] [0] [0] rfl rfl Tryd.call86 rfl (impl_Decimal_c (by omega) (by omega)) (.own rfl) rfl (fun _ => rfl) ⟨rfl, trivial⟩ rfl (fun _ => rfl) (fun _ => rfl)) ?_
              rintro _ ⟨⟨⟩, hu11, rfl⟩
              refine ANx.all (rs := [6, 10]) (by kernel_rfl) rfl ⟨?_, ?_, trivial⟩
              · -- 6
                refine Stpx.eff rfl rfl (Eff.yld (Yld.cat rfl rfl (by first | (simp only [List.length_append, List.length_cons, List.length_nil]; omega) | omega)) rfl rfl) ?_
                refine ANx.all (rs := [7, 10]) (by kernel_rfl) rfl ⟨?_, ?_, trivial⟩
                · -- 7
                  refine Stpx.eff rfl rfl (Eff.yld (Yld.cat rfl rfl (by first | (simp only [List.length_append, List.length_cons, List.length_nil]; omega) | omega)) rfl rfl) ?_
                  refine ANx.all (rs := [10]) (by kernel_rfl) rfl ⟨?_, trivial⟩
                  refine Stpx.effX rfl rfl (EffX.callW [0] [0] [0] rfl rfl Tryd.call86 rfl (impl_Decimal_c (by omega) (by omega)) (.own rfl) rfl (fun _ => rfl) ⟨rfl, trivial⟩ rfl (fun _ => rfl) (fun _ => rfl)) ?_
                  rintro _ ⟨⟨⟩, hu16, rfl⟩
                  refine ANx.all (rs := [11]) (by kernel_rfl) rfl ⟨?_, trivial⟩
                  refine Stpx.eff rfl rfl (Eff.yld (Yld.cat rfl rfl (by first | (simp only [List.length_append, List.length_cons, List.length_nil]; omega) | omega)) rfl rfl) ?_
                  refine ANx.take 12 rfl (by kernel_rfl) (by kernel_rfl) (by kernel_rfl) rfl rfl rfl (YldA.assign rfl) ?_
                  exact ANx.doneC () (by kernel_rfl) ⟨rfl, trivial⟩ trivial ⟨rfl, rfl, rfl, rfl, rfl, trivial⟩ ⟨rfl, rfl, rfl, trivial⟩
                · -- 10
                  refine Stpx.effX rfl rfl (EffX.callW [0] [0] [0] rfl rfl Tryd.call86 rfl (impl_Decimal_c (by omega) (by omega)) (.own rfl) rfl (fun _ => rfl) ⟨rfl, trivial⟩ rfl (fun _ => rfl) (fun _ => rfl)) ?_
                  rintro _ ⟨⟨⟩, hu16, rfl⟩
                  refine ANx.all (rs := [7]) (by kernel_rfl) rfl ⟨?_, trivial⟩
                  refine Stpx.eff rfl rfl (Eff.yld (Yld.cat rfl rfl (by first | (simp only [List.length_append, List.length_cons, List.length_nil]; omega) | omega)) rfl rfl) ?_
                  refine ANx.all (rs := [11]) (by kernel_rfl) rfl ⟨?_, trivial⟩
                  refine Stpx.eff rfl rfl (Eff.yld (Yld.cat rfl rfl (by first | (simp only [List.length_append, List.length_cons, List.length_nil]; omega) | omega)) rfl rfl) ?_
                  refine ANx.take 12 rfl (by kernel_rfl) (by kernel_rfl) (by kernel_rfl) rfl rfl rfl (YldA.assign rfl) ?_
                  exact ANx.doneC () (by kernel_rfl) ⟨rfl, trivial⟩ trivial ⟨rfl, rfl, rfl, rfl, rfl, trivial⟩ ⟨rfl, rfl, rfl, trivial⟩
              · -- 10
                refine Stpx.effX rfl rfl (EffX.callW [0] [0] [0] rfl rfl Tryd.call86 rfl (impl_Decimal_c (by omega) (by omega)) (.own rfl) rfl (fun _ => rfl) ⟨rfl, trivial⟩ rfl (fun _ => rfl) (fun _ => rfl)) ?_
                rintro _ ⟨⟨⟩, hu16, rfl⟩
                refine ANx.all (rs := [6]) (by kernel_rfl) rfl ⟨?_, trivial⟩
                refine Stpx.eff rfl rfl (Eff.yld (Yld.cat rfl rfl (by first | (simp only [List.length_append, List.length_cons, List.length_nil]; omega) | omega)) rfl rfl) ?_
                refine ANx.all (rs := [7]) (by kernel_rfl) rfl ⟨?_, trivial⟩
                refine Stpx.eff rfl rfl (Eff.yld (Yld.cat rfl rfl (by first | (simp only [List.length_append, List.length_cons, List.length_nil]; omega) | omega)) rfl rfl) ?_
                refine ANx.all (rs := [11]) (by kernel_rfl) rfl ⟨?_, trivial⟩
                refine Stpx.eff rfl rfl (Eff.yld (Yld.cat rfl rfl (by first | (simp only [List.length_append, List.length_cons, List.length_nil]; omega) | omega)) rfl rfl) ?_
                refine ANx.take 12 rfl (by kernel_rfl) (by kernel_rfl) (by kernel_rfl) rfl rfl rfl (YldA.assign rfl) ?_
                exact ANx.doneC () (by kernel_rfl) ⟨rfl, trivial⟩ trivial ⟨rfl, rfl, rfl, rfl, rfl, trivial⟩ ⟨rfl, rfl, rfl, trivial⟩
            · -- 5
              refine Stpx.effX rfl rfl (EffX.callW [0] [0] [0] rfl rfl Tryd.call86 rfl (impl_Decimal_c (by omega) (by omega)) (.own rfl) rfl (fun _ => rfl) ⟨rfl, trivial⟩ rfl (fun _ => rfl) (fun _ => rfl)) ?_
              rintro _ ⟨⟨⟩, hu11, rfl⟩
              refine ANx.all (rs := [2, 10]) (by kernel_rfl) rfl ⟨?_, ?_, trivial⟩
              · -- 2
                refine Stpx.eff rfl rfl (Eff.yld (Yld.cat rfl rfl (by first | (simp only [List.length_append, List.length_cons, List.length_nil]; omega) | omega)) rfl rfl) ?_
                refine ANx.all (rs := [6, 10]) (by kernel_rfl) rfl ⟨?_, ?_, trivial⟩
                · -- 6
                  refine Stpx.eff rfl rfl (Eff.yld (Yld.cat rfl rfl (by first | (simp only [List.length_append, List.length_cons, List.length_nil]; omega) | omega)) rfl rfl) ?_
                  refine ANx.all (rs := [7, 10]) (by kernel_rfl) rfl ⟨?_, ?_, trivial⟩
                  · -- 7
                    refine Stpx.eff rfl rfl (Eff.yld (Yld.cat rfl rfl (by first | (simp only [List.length_append, List.length_cons, List.length_nil]; omega) | omega)) rfl rfl) ?_
                    refine ANx.all (rs := [10]) (by kernel_rfl) rfl ⟨?_, trivial⟩
                    refine Stpx.effX rfl rfl (EffX.callW [0] [0] [0] rfl rfl Tryd.call86 rfl (impl_Decimal_c (by omega) (by omega)) (.own rfl) rfl (fun _ => rfl) ⟨rfl, trivial⟩ rfl (fun _ => rfl) (fun _ => rfl)) ?_
                    rintro _ ⟨⟨⟩, hu16, rfl⟩
                    refine ANx.all (rs := [11]) (by kernel_rfl) rfl ⟨?_, trivial⟩
                    refine Stpx.eff rfl rfl (Eff.yld (Yld.cat rfl rfl (by first | (simp only [List.length_append, List.length_cons, List.length_nil]; omega) | omega)) rfl rfl) ?_
                    refine ANx.take 12 rfl (by kernel_rfl) (by kernel_rfl) (by kernel_rfl) rfl rfl rfl (YldA.assign rfl) ?_
                    exact ANx.doneC () (by kernel_rfl) ⟨rfl, trivial⟩ trivial ⟨rfl, rfl, rfl, rfl, rfl, trivial⟩ ⟨rfl, rfl, rfl, trivial⟩
                  · -- 10
                    refine Stpx.effX rfl rfl (EffX.callW [0] [0] [0] rfl rfl Tryd.call86 rfl (impl_Decimal_c (by omega) (by omega)) (.own rfl) rfl (fun _ => rfl) ⟨rfl, trivial⟩ rfl (fun _ => rfl) (fun _ => rfl)) ?_
                    rintro _ ⟨⟨⟩, hu16, rfl⟩
                    refine ANx.all (rs := [7]) (by kernel_rfl) rfl ⟨?_, trivial⟩
                    refine Stpx.eff rfl rfl (Eff.yld (Yld.cat rfl rfl (by first | (simp only [List.length_append, List.length_cons, List.length_nil]; omega) | omega)) rfl rfl) ?_
                    refine ANx.all (rs := [11]) (by kernel_rfl) rfl ⟨?_, trivial⟩
                    refine Stpx.eff rfl rfl (Eff.yld (Yld.cat rfl rfl (by first | (simp only [List.length_append, List.length_cons, List.length_nil]; omega) | omega)) rfl rfl) ?_
                    refine ANx.take 12 rfl (by kernel_rfl) (by kernel_rfl) (by kernel_rfl) rfl rfl rfl (YldA.assign rfl) ?_
                    exact ANx.doneC () (by kernel_rfl) ⟨rfl, trivial⟩ trivial ⟨rfl, rfl, rfl, rfl, rfl, trivial⟩ ⟨rfl, rfl, rfl, trivial⟩
                · -- 10
                  refine Stpx.effX rfl rfl (EffX.callW [0] [0] [0] rfl rfl Tryd.call86 rfl (impl_Decimal_c (by omega) (by omega)) (.own rfl) rfl (fun _ => rfl) ⟨rfl, trivial⟩ rfl (fun _ => rfl) (fun _ => rfl)) ?_
                  rintro _ ⟨⟨⟩, hu16, rfl⟩
                  refine ANx.all (rs := [6]) (by kernel_rfl) rfl ⟨?_, trivial⟩
                  refine Stpx.eff rfl rfl (Eff.yld (Yld.cat rfl rfl (by first | (simp only [List.length_append, List.length_cons, List.length_nil]; omega) | omega)) rfl rfl) ?_
                  refine ANx.all (rs := [7]) (by kernel_rfl) rfl ⟨?_, trivial⟩
                  refine Stpx.eff rfl rfl (Eff.yld (Yld.cat rfl rfl (by first | (simp only [List.length_append, List.length_cons, List.length_nil]; omega) | omega)) rfl rfl) ?_
                  refine ANx.all (rs := [11]) (by kernel_rfl) rfl ⟨?_, trivial⟩
                  refine Stpx.eff rfl rfl (Eff.yld (Yld.cat rfl rfl (by first | (simp only [List.length_append, List.length_cons, List.length_nil]; omega) | omega)) rfl rfl) ?_
                  refine ANx.take 12 rfl (by kernel_rfl) (by kernel_rfl) (by kernel_rfl) rfl rfl rfl (YldA.assign rfl) ?_
                  exact ANx.doneC () (by kernel_rfl) ⟨rfl, trivial⟩ trivial ⟨rfl, rfl, rfl, rfl, rfl, trivial⟩ ⟨rfl, rfl, rfl, trivial⟩
              · -- 10
                refine Stpx.effX rfl rfl (EffX.callW [0] [0] [0] rfl rfl Tryd.call86 rfl (impl_Decimal_c (by omega) (by omega)) (.own rfl) rfl (fun _ => rfl) ⟨rfl, trivial⟩ rfl (fun _ => rfl) (fun _ => rfl)) ?_
                rintro _ ⟨⟨⟩, hu16, rfl⟩
                refine ANx.all (rs := [2]) (by kernel_rfl) rfl ⟨?_, trivial⟩
                refine Stpx.eff rfl rfl (Eff.yld (Yld.cat rfl rfl (by first | (simp only [List.length_append, List.length_cons, List.length_nil]; omega) | omega)) rfl rfl) ?_
                refine ANx.all (rs := [6]) (by kernel_rfl) rfl ⟨?_, trivial⟩
                refine Stpx.eff rfl rfl (Eff.yld (Yld.cat rfl rfl (by first | (simp only [List.length_append, List.length_cons, List.length_nil]; omega) | omega)) rfl rfl) ?_
                refine ANx.all (rs := [7]) (by kernel_rfl) rfl ⟨?_, trivial⟩
                refine Stpx.eff rfl rfl (Eff.yld (Yld.cat rfl rfl (by first | (simp only [List.length_append, List.length_cons, List.length_nil]; omega) | omega)) rfl rfl) ?_
                refine ANx.all (rs := [11]) (by kernel_rfl) rfl ⟨?_, trivial⟩
                refine Stpx.eff rfl rfl (Eff.yld (Yld.cat rfl rfl (by first | (simp only [List.length_append, List.length_cons, List.length_nil]; omega) | omega)) rfl rfl) ?_
                refine ANx.take 12 rfl (by kernel_rfl) (by kernel_rfl) (by kernel_rfl) rfl rfl rfl (YldA.assign rfl) ?_
                exact ANx.doneC () (by kernel_rfl) ⟨rfl, trivial⟩ trivial ⟨rfl, rfl, rfl, rfl, rfl, trivial⟩ ⟨rfl, rfl, rfl, trivial⟩
          · -- 5
            refine Stpx.effX rfl rfl (EffX.callW [0] [0] [0] rfl rfl Tryd.call86 rfl (impl_Decimal_c (by omega) (by omega)) (.own rfl) rfl (fun _ => rfl) ⟨rfl, trivial⟩ rfl (fun _ => rfl) (fun _ => rfl)) ?_
            rintro _ ⟨⟨⟩, hu11, rfl⟩
            refine ANx.all (rs := [1, 10]) (by kernel_rfl) rfl ⟨?_, ?_, trivial⟩
            · -- 1
              refine Stpx.eff rfl rfl (Eff.yld (Yld.load Tryd.isAgg9 rfl rfl) rfl rfl) ?_
              refine ANx.all (rs := [2, 10]) (by kernel_rfl) rfl ⟨?_, ?_, trivial⟩
              · -- 2
                refine Stpx.eff rfl rfl (Eff.yld (Yld.cat rfl rfl (by first | (simp only [List.length_append, List.length_cons, List.length_nil]; omega) | omega)) rfl rfl) ?_
                refine ANx.all (rs := [6, 10]) (by kernel_rfl) rfl ⟨?_, ?_, trivial⟩
                · -- 6
                  refine Stpx.eff rfl rfl (Eff.yld (Yld.cat rfl rfl (by first | (simp only [List.length_append, List.length_cons, List.length_nil]; omega) | omega)) rfl rfl) ?_
                  refine ANx.all (rs := [7, 10]) (by kernel_rfl) rfl ⟨?_, ?_, trivial⟩
                  · -- 7
                    refine Stpx.eff rfl rfl (Eff.yld (Yld.cat rfl rfl (by first | (simp only [List.length_append, List.length_cons, List.length_nil]; omega) | omega)) rfl rfl) ?_
                    refine ANx.all (rs := [10]) (by kernel_rfl) rfl ⟨?_, trivial⟩
                    refine Stpx.effX rfl rfl (EffX.callW [0] [0] [0] rfl rfl Tryd.call86 rfl (impl_Decimal_c (by omega) (by omega)) (.own rfl) rfl (fun _ => rfl) ⟨rfl, trivial⟩ rfl (fun _ => rfl) (fun _ => rfl)) ?_
                    rintro _ ⟨⟨⟩, hu16, rfl⟩
                    refine ANx.all (rs := [11]) (by kernel_rfl) rfl ⟨?_, trivial⟩
                    refine Stpx.eff rfl rfl (Eff.yld (Yld.cat rfl rfl (by first | (simp only [List.length_append, List.length_cons, List.length_nil]; omega) | omega)) rfl rfl) ?_
                    refine ANx.take 12 rfl (by kernel_rfl) (by kernel_rfl) (by kernel_rfl) rfl rfl rfl (YldA.assign rfl) ?_
                    exact ANx.doneC () (by kernel_rfl) ⟨rfl, trivial⟩ trivial ⟨rfl, rfl, rfl, rfl, rfl, trivial⟩ ⟨rfl, rfl, rfl, trivial⟩
                  · -- 10
                    refine Stpx.effX rfl rfl (EffX.callW [0] [0] [0] rfl rfl Tryd.call86 rfl (impl_Decimal_c (by omega) (by omega)) (.own rfl) rfl (fun _ => rfl) ⟨rfl, trivial⟩ rfl (fun _ => rfl) (fun _ => rfl)) ?_
                    rintro _ ⟨⟨⟩, hu16, rfl⟩
                    refine ANx.all (rs := [7]) (by kernel_rfl) rfl ⟨?_, trivial⟩
                    refine Stpx.eff rfl rfl (Eff.yld (Yld.cat rfl rfl (by first | (simp only [List.length_append, List.length_cons, List.length_nil]; omega) | omega)) rfl rfl) ?_
                    refine ANx.all (rs := [11]) (by kernel_rfl) rfl ⟨?_, trivial⟩
                    refine Stpx.eff rfl rfl (Eff.yld (Yld.cat rfl rfl (by first | (simp only [List.length_append, List.length_cons, List.length_nil]; omega) | omega)) rfl rfl) ?_
                    refine ANx.take 12 rfl (by kernel_rfl) (by kernel_rfl) (by kernel_rfl) rfl rfl rfl (YldA.assign rfl) ?_
                    exact ANx.doneC () (by kernel_rfl) ⟨rfl, trivial⟩ trivial ⟨rfl, rfl, rfl, rfl, rfl, trivial⟩ ⟨rfl, rfl, rfl, trivial⟩
                · -- 10
                  refine Stpx.effX rfl rfl (EffX.callW [0] [0] [0] rfl rfl Tryd.call86 rfl (impl_Decimal_c (by omega) (by omega)) (.own rfl) rfl (fun _ => rfl) ⟨rfl, trivial⟩ rfl (fun _ => rfl) (fun _ => rfl)) ?_
                  rintro _ ⟨⟨⟩, hu16, rfl⟩
                  refine ANx.all (rs := [6]) (by kernel_rfl) rfl ⟨?_, trivial⟩
                  refine Stpx.eff rfl rfl (Eff.yld (Yld.cat rfl rfl (by first | (simp only [List.length_append, List.length_cons, List.length_nil]; omega) | omega)) rfl rfl) ?_
                  refine ANx.all (rs := [7]) (by kernel_rfl) rfl ⟨?_, trivial⟩
                  refine Stpx.eff rfl rfl (Eff.yld (Yld.cat rfl rfl (by first | (simp only [List.length_append, List.length_cons, List.length_nil]; omega) | omega)) rfl rfl) ?_
                  refine ANx.all (rs := [11]) (by kernel_rfl) rfl ⟨?_, trivial⟩
                  refine Stpx.eff rfl rfl (Eff.yld (Yld.cat rfl rfl (by first | (simp only [List.length_append, List.length_cons, List.length_nil]; omega) | omega)) rfl rfl) ?_
                  refine ANx.take 12 rfl (by kernel_rfl) (by kernel_rfl) (by kernel_rfl) rfl rfl rfl (YldA.assign rfl) ?_
                  exact ANx.doneC () (by kernel_rfl) ⟨rfl, trivial⟩ trivial ⟨rfl, rfl, rfl, rfl, rfl, trivial⟩ ⟨rfl, rfl, rfl, trivial⟩
              · -- 10
                refine Stpx.effX rfl rfl (EffX.callW [0] [0] [0] rfl rfl Tryd.call86 rfl (impl_Decimal_c (by omega) (by omega)) (.own rfl) rfl (fun _ => rfl) ⟨rfl, trivial⟩ rfl (fun _ => rfl) (fun _ => rfl)) ?_
                rintro _ ⟨⟨⟩, hu16, rfl⟩
                refine ANx.all (rs := [2]) (by kernel_rfl) rfl ⟨?_, trivial⟩
                refine Stpx.eff rfl rfl (Eff.yld (Yld.cat rfl rfl (by first | (simp only [List.length_append, List.length_cons, List.length_nil]; omega) | omega)) rfl rfl) ?_
                refine ANx.all (rs := [6]) (by kernel_rfl) rfl ⟨?_, trivial⟩
                refine Stpx.eff rfl rfl (Eff.yld (Yld.cat rfl rfl (by first | (simp only [List.length_append, List.length_cons, List.length_nil]; omega) | omega)) rfl rfl) ?_
                refine ANx.all (rs := [7]) (by kernel_rfl) rfl ⟨?_, trivial⟩
                refine Stpx.eff rfl rfl (Eff.yld (Yld.cat rfl rfl (by first | (simp only [List.length_append, List.length_cons, List.length_nil]; omega) | omega)) rfl rfl) ?_
                refine ANx.all (rs := [11]) (by kernel_rfl) rfl ⟨?_, trivial⟩
                refine Stpx.eff rfl rfl (Eff.yld (Yld.cat rfl rfl (by first | (simp only [List.length_append, List.length_cons, List.length_nil]; omega) | omega)) rfl rfl) ?_
                refine ANx.take 12 rfl (by kernel_rfl) (by kernel_rfl) (by kernel_rfl) rfl rfl rfl (YldA.assign rfl) ?_
                exact ANx.doneC () (by kernel_rfl) ⟨rfl, trivial⟩ trivial ⟨rfl, rfl, rfl, rfl, rfl, trivial⟩ ⟨rfl, rfl, rfl, trivial⟩
            · -- 10
              refine Stpx.effX rfl rfl (EffX.callW [0] [0] [0] rfl rfl Tryd.call86 rfl (impl_Decimal_c (by omega) (by omega)) (.own rfl) rfl (fun _ => rfl) ⟨rfl, trivial⟩ rfl (fun _ => rfl) (fun _ => rfl)) ?_
              rintro _ ⟨⟨⟩, hu16, rfl⟩
              refine ANx.all (rs := [1]) (by kernel_rfl) rfl ⟨?_, trivial⟩
              refine Stpx.eff rfl rfl (Eff.yld (Yld.load Tryd.isAgg9 rfl rfl) rfl rfl) ?_
              refine ANx.all (rs := [2]) (by kernel_rfl) rfl ⟨?_, trivial⟩
              refine Stpx.eff rfl rfl (Eff.yld (Yld.cat rfl rfl (by first | (simp only [List.length_append, List.length_cons, List.length_nil]; omega) | omega)) rfl rfl) ?_
              refine ANx.all (rs := [6]) (by kernel_rfl) rfl ⟨?_, trivial⟩
              refine Stpx.eff rfl rfl (Eff.yld (Yld.cat rfl rfl (by first | (simp only [List.length_append, List.length_cons, List.length_nil]; omega) | omega)) rfl rfl) ?_
              refine ANx.all (rs := [7]) (by kernel_rfl) rfl ⟨?_, trivial⟩
              refine Stpx.eff rfl rfl (Eff.yld (Yld.cat rfl rfl (by first | (simp only [List.length_append, List.length_cons, List.length_nil]; omega) | omega)) rfl rfl) ?_
              refine ANx.all (rs := [11]) (by kernel_rfl) rfl ⟨?_, trivial⟩
              refine Stpx.eff rfl rfl (Eff.yld (Yld.cat rfl rfl (by first | (simp only [List.length_append, List.length_cons, List.length_nil]; omega) | omega)) rfl rfl) ?_
              refine ANx.take 12 rfl (by kernel_rfl) (by kernel_rfl) (by kernel_rfl) rfl rfl rfl (YldA.assign rfl) ?_
              exact ANx.doneC () (by kernel_rfl) ⟨rfl, trivial⟩ trivial ⟨rfl, rfl, rfl, rfl, rfl, trivial⟩ ⟨rfl, rfl, rfl, trivial⟩
    · -- behind
      rintro y
      refine FnE.ret () [0] [0] Tryd.results24 (RVs.cons (RV.tmp rfl) RVs.nil) rfl rfl rfl ?_ ?_ ⟨⟨_, rfl, ?_⟩, trivial⟩
      · -- holds
        trivial
      · -- value
        first | (unfold machText; rw [if_pos hok]; first | done | rfl) | (unfold machText; rw [if_neg hno]; rfl)
      · -- thing 0
        first | rfl | exact vecE (by first | rfl | (simp_all; done) | grind) | (simp_all; done)

end Go.Proofs.YtdgjlkdcklfieaaDoor
