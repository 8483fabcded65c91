/- Contracts of functions of the program, each by a walk of its text in the calculus V. -/
import Derived.Test.YtglblonacmhceaaR2B
set_option linter.all false
set_option linter.unusedSimpArgs false
set_option linter.unnecessarySimpa false
set_option linter.unusedVariables false
namespace Go.Proofs.Ytglblonacmhceaa
open Go Go.V

theorem laws_FnExactMachineOf_c {n : List UInt8} (hb_n : n.length ≤ 9223372036854775807) {xs : List Sample} (hb_xs : xs.length ≤ 9223372036854775807) :
    Pure Try.prog 10 [.v (str n), .sl 3 (xs.map encSample)] (.v (.bool true)) := by
  refine Pure.intro Try.func10 rfl Try.ntmps10 rfl rfl (fun w => ?_)
  refine AC.seq ?_
  refine AC.region ?_
  refine AO.yld _ (Yld.assign rfl) rfl rfl rfl ?_
  refine AO.nil ?_
  refine AC.seq ?_
  refine AC.seq ?_
  refine AC.region ?_
  refine AO.yld _ (Yld.move rfl) rfl rfl rfl ?_
  refine AO.yld _ (Yld.lenStr Try.underlying9 rfl) rfl rfl rfl ?_
  refine AO.yld _ (Yld.int rfl rfl rfl) rfl rfl rfl ?_
  refine AO.nil ?_
  refine AC.cond _ rfl (fun c13 => ?_) (fun c13 => ?_)
  · -- c13 True
    refine AC.seq ?_
    refine AC.region ?_
    refine AO.yld _ (Yld.assign rfl) rfl rfl rfl ?_
    refine AO.nil ?_
    refine Pure.ret Try.results10 (RVs.cons (RV.tmp rfl) RVs.nil) rfl ?_
    first | rfl | (simp_all; done) | (simp_all; intros; omega) | grind
  · -- c13 False
    have hlen_n : n.length ≤ 1048576 := by simp at c13; omega
    refine AC.skip ?_
    refine AC.seq ?_
    refine AC.region ?_
    refine AO.yld _ (Yld.assign rfl) rfl rfl rfl ?_
    refine AO.nil ?_
    refine AC.seq ?_
    refine AC.region ?_
    refine AO.yld _ (Yld.move rfl) rfl rfl rfl ?_
    refine AO.yld _ (Yld.move rfl) rfl rfl rfl ?_
    refine AO.yld _ (Yld.call rfl rfl Try.call47 rfl rfl rfl (laws_szSampleS_c (by omega) (by omega) (by first | assumption | omega)) rfl) rfl rfl rfl ?_
    refine AO.yld _ (Yld.assign rfl) rfl rfl rfl ?_
    refine AO.nil ?_
    refine AC.seq ?_
    refine AC.seq ?_
    refine AC.region ?_
    refine AO.yld _ (Yld.move rfl) rfl rfl rfl ?_
    refine AO.yld _ (Yld.int rfl rfl rfl) rfl rfl rfl ?_
    refine AO.nil ?_
    refine AC.cond _ rfl (fun c18 => ?_) (fun c18 => ?_)
    · -- c18 True
      refine AC.seq ?_
      refine AC.region ?_
      refine AO.yld _ (Yld.assign rfl) rfl rfl rfl ?_
      refine AO.nil ?_
      refine Pure.ret Try.results10 (RVs.cons (RV.tmp rfl) RVs.nil) rfl ?_
      first | rfl | (simp_all; done) | (simp_all; intros; omega) | grind
    · -- c18 False
      have hz_xs := szLen_ge c18
      have hn_xs : xs.length ≤ 1048576 := by omega
      refine AC.skip ?_
      refine AC.seq ?_
      refine AC.region ?_
      refine AO.yld _ (Yld.move rfl) rfl rfl rfl ?_
      refine AO.yld _ (Yld.move rfl) rfl rfl rfl ?_
      refine AO.callMk 0 rfl rfl Try.call49 rfl rfl rfl (laws_toSampleS_c (by first | assumption | omega)) (by simp [AV.Flat, AV.FlatL, PV.Flat, PV.FlatL]) (flat_map flatSample _) rfl rfl ?_
      refine AO.yld _ (Yld.call rfl rfl Try.call48 rfl rfl rfl (spec_MachineOf_c (by first | assumption | omega) (by first | assumption | omega)) rfl) rfl rfl rfl ?_
      refine AO.yld _ (Yld.move rfl) rfl rfl rfl ?_
      refine AO.yld _ (Yld.extract rfl rfl rfl) rfl rfl rfl ?_
      refine AO.yld _ (Yld.extract rfl rfl rfl) rfl rfl rfl ?_
      refine AO.alloc 1 Try.zeroValue73 rfl rfl rfl ?_
      refine AO.store Try.sizeOf73 rfl rfl rfl rfl rfl rfl ?_
      refine AO.yld _ (Yld.assign rfl) rfl rfl rfl ?_
      refine AO.nil ?_
      refine AC.seq ?_
      refine AC.region ?_
      refine AO.yld _ (Yld.move rfl) rfl rfl rfl ?_
      refine AO.callMk 2 rfl rfl Try.call49 rfl rfl rfl (laws_toSampleS_c (by first | assumption | omega)) (by simp [AV.Flat, AV.FlatL, PV.Flat, PV.FlatL]) (flat_map flatSample _) rfl rfl ?_
      refine AO.yld _ (Yld.assign rfl) rfl rfl rfl ?_
      refine AO.nil ?_
      refine AC.seq ?_
      refine AC.region ?_
      refine AO.yld _ (Yld.move rfl) rfl rfl rfl ?_
      refine AO.yld _ (Yld.move rfl) rfl rfl rfl ?_
      refine AO.yld _ (Yld.call rfl rfl Try.call50 rfl rfl rfl (impl_MachineOf_c (by first | assumption | omega) (by first | assumption | omega)) rfl) rfl rfl rfl ?_
      refine AO.yld _ (Yld.move rfl) rfl rfl rfl ?_
      refine AO.yld _ (Yld.extract rfl rfl rfl) rfl rfl rfl ?_
      refine AO.yld _ (Yld.extract rfl rfl rfl) rfl rfl rfl ?_
      refine AO.alloc 3 Try.zeroValue73 rfl rfl rfl ?_
      refine AO.store Try.sizeOf73 rfl rfl rfl rfl rfl rfl ?_
      refine AO.yld _ (Yld.assign rfl) rfl rfl rfl ?_
      refine AO.nil ?_
      refine AC.seq ?_
      refine AC.seq ?_
      refine AC.region ?_
      refine AO.yld _ (Yld.loadAgg Try.isAgg73 Try.sizeOf73 rfl rfl rfl rfl) rfl rfl rfl ?_
      refine AO.yld _ (Yld.loadAgg Try.isAgg73 Try.sizeOf73 rfl rfl rfl rfl) rfl rfl rfl ?_
      refine AO.yld _ (Yld.call rfl rfl Try.call51 rfl rfl rfl (laws_eqMachine_c) rfl) rfl rfl rfl ?_
      refine AO.yld _ (Yld.not rfl) rfl rfl rfl ?_
      refine AO.yld _ (Yld.move rfl) rfl rfl rfl ?_
      refine AO.splitAt 38 _ rfl (fun s38 => ?_) (fun s38 => ?_)
      · -- s38 True
        refine AO.skipF rfl rfl rfl rfl rfl ?_
        refine AO.skipF rfl rfl rfl rfl rfl ?_
        refine AO.skipF rfl rfl rfl rfl rfl ?_
        refine AO.yld _ (Yld.pickT rfl rfl) rfl rfl rfl ?_
        refine AO.nil ?_
        refine AC.condT rfl ?_
        refine AC.seq ?_
        refine AC.region ?_
        refine AO.yld _ (Yld.assign rfl) rfl rfl rfl ?_
        refine AO.nil ?_
        refine Pure.ret Try.results10 (RVs.cons (RV.tmp rfl) RVs.nil) rfl ?_
        first | rfl | (simp_all; done) | (simp_all; intros; omega) | grind
      · -- s38 False
        refine AO.yldG _ (Yld.move rfl) rfl rfl rfl rfl rfl ?_
        refine AO.yldG _ (Yld.move rfl) rfl rfl rfl rfl rfl ?_
        refine AO.yldG _ (Yld.int rfl rfl rfl) rfl rfl rfl rfl rfl ?_
        refine AO.yld _ (Yld.pickF rfl rfl) rfl rfl rfl ?_
        refine AO.nil ?_
        refine AC.cond _ rfl (fun c42 => ?_) (fun c42 => ?_)
        · -- c42 True
          refine AC.seq ?_
          refine AC.region ?_
          refine AO.yld _ (Yld.assign rfl) rfl rfl rfl ?_
          refine AO.nil ?_
          refine Pure.ret Try.results10 (RVs.cons (RV.tmp rfl) RVs.nil) rfl ?_
          first | rfl | (simp_all; done) | (simp_all; intros; omega) | grind
        · -- c42 False
          refine AC.skip ?_
          refine AC.seq ?_
          refine AC.seq ?_
          refine AC.region ?_
          refine AO.yld _ (Yld.move rfl) rfl rfl rfl ?_
          refine AO.yld _ (Yld.move rfl) rfl rfl rfl ?_
          refine AO.callMk 4 rfl rfl Try.call49 rfl rfl rfl (laws_toSampleS_c (by first | assumption | omega)) (by simp [AV.Flat, AV.FlatL, PV.Flat, PV.FlatL]) (flat_map flatSample _) rfl rfl ?_
          refine AO.yld _ (Yld.call rfl rfl Try.call52 rfl rfl rfl (laws_eqSampleS_c (by first | assumption | omega)) rfl) rfl rfl rfl ?_
          refine AO.yld _ (Yld.not rfl) rfl rfl rfl ?_
          refine AO.nil ?_
          refine AC.cond _ rfl (fun c47 => ?_) (fun c47 => ?_)
          · -- c47 True
            refine AC.seq ?_
            refine AC.region ?_
            refine AO.yld _ (Yld.assign rfl) rfl rfl rfl ?_
            refine AO.nil ?_
            refine Pure.ret Try.results10 (RVs.cons (RV.tmp rfl) RVs.nil) rfl ?_
            first | rfl | (simp_all; done) | (simp_all; intros; omega) | grind
          · -- c47 False
            refine AC.skip ?_
            refine AC.seq ?_
            refine AC.region ?_
            refine AO.yld _ (Yld.assign rfl) rfl rfl rfl ?_
            refine AO.nil ?_
            refine Pure.ret Try.results10 (RVs.cons (RV.tmp rfl) RVs.nil) rfl ?_
            first | rfl | (simp_all; done) | (simp_all; intros; omega) | grind

theorem laws_FnExactTotalSize_c {xs : List NV} (hb_xs : xs.length ≤ 9223372036854775807) (hs_xs : ∀ x ∈ xs, (x.name).length ≤ 9223372036854775807) {ns : List (List UInt8)} (hb_ns : ns.length ≤ 9223372036854775807) (hs_ns : ∀ x ∈ ns, x.length ≤ 9223372036854775807) :
    Pure Try.prog 11 [.sl 2 (xs.map encNV), .sl 1 (ns.map encS)] (.v (.bool true)) := by
  refine Pure.intro Try.func11 rfl Try.ntmps11 rfl rfl (fun w => ?_)
  refine AC.seq ?_
  refine AC.region ?_
  refine AO.yld _ (Yld.assign rfl) rfl rfl rfl ?_
  refine AO.nil ?_
  refine AC.seq ?_
  refine AC.region ?_
  refine AO.yld _ (Yld.assign rfl) rfl rfl rfl ?_
  refine AO.nil ?_
  refine AC.seq ?_
  refine AC.region ?_
  refine AO.yld _ (Yld.move rfl) rfl rfl rfl ?_
  refine AO.yld _ (Yld.move rfl) rfl rfl rfl ?_
  refine AO.yld _ (Yld.call rfl rfl Try.call14 rfl rfl rfl (laws_szMediaS_c (by omega) (by omega) (by first | assumption | omega) (by assumption)) rfl) rfl rfl rfl ?_
  refine AO.yld _ (Yld.assign rfl) rfl rfl rfl ?_
  refine AO.nil ?_
  refine AC.seq ?_
  refine AC.seq ?_
  refine AC.region ?_
  refine AO.yld _ (Yld.move rfl) rfl rfl rfl ?_
  refine AO.yld _ (Yld.int rfl rfl rfl) rfl rfl rfl ?_
  refine AO.nil ?_
  refine AC.cond _ rfl (fun c16 => ?_) (fun c16 => ?_)
  · -- c16 True
    refine AC.seq ?_
    refine AC.region ?_
    refine AO.yld _ (Yld.assign rfl) rfl rfl rfl ?_
    refine AO.nil ?_
    refine Pure.ret Try.results11 (RVs.cons (RV.tmp rfl) RVs.nil) rfl ?_
    first | rfl | (simp_all; done) | (simp_all; intros; omega) | grind
  · -- c16 False
    have hz_xs := szAll_ge c16
    have hp_xs := lens_nonneg (f := NV.name) (xs := xs)
    have hn_xs : xs.length ≤ 1048576 := by omega
    have ht_xs : ∀ x ∈ xs, (x.name).length ≤ 1048576 := fun x hx => by have := len_le_lens (f := NV.name) hx; omega
    refine AC.skip ?_
    refine AC.seq ?_
    refine AC.region ?_
    refine AO.yld _ (Yld.move rfl) rfl rfl rfl ?_
    refine AO.yld _ (Yld.move rfl) rfl rfl rfl ?_
    refine AO.yld _ (Yld.call rfl rfl Try.call53 rfl rfl rfl (laws_szStringS_c (by omega) (by omega) (by first | assumption | omega) (by assumption)) rfl) rfl rfl rfl ?_
    refine AO.yld _ (Yld.assign rfl) rfl rfl rfl ?_
    refine AO.nil ?_
    refine AC.seq ?_
    refine AC.seq ?_
    refine AC.region ?_
    refine AO.yld _ (Yld.move rfl) rfl rfl rfl ?_
    refine AO.yld _ (Yld.int rfl rfl rfl) rfl rfl rfl ?_
    refine AO.nil ?_
    refine AC.cond _ rfl (fun c21 => ?_) (fun c21 => ?_)
    · -- c21 True
      refine AC.seq ?_
      refine AC.region ?_
      refine AO.yld _ (Yld.assign rfl) rfl rfl rfl ?_
      refine AO.nil ?_
      refine Pure.ret Try.results11 (RVs.cons (RV.tmp rfl) RVs.nil) rfl ?_
      first | rfl | (simp_all; done) | (simp_all; intros; omega) | grind
    · -- c21 False
      have hz_ns := szAll_ge c21
      have hp_ns := lens_nonneg (f := fun x : List UInt8 => x) (xs := ns)
      have hn_ns : ns.length ≤ 1048576 := by omega
      refine AC.skip ?_
      refine AC.seq ?_
      refine AC.region ?_
      refine AO.yld _ (Yld.move rfl) rfl rfl rfl ?_
      refine AO.callMk 0 rfl rfl Try.call16 rfl rfl rfl (laws_toMediaS_c (by first | assumption | omega)) (by simp [AV.Flat, AV.FlatL, PV.Flat, PV.FlatL]) (flat_map flatNV _) rfl rfl ?_
      refine AO.yld _ (Yld.move rfl) rfl rfl rfl ?_
      refine AO.callMk 1 rfl rfl Try.call55 rfl rfl rfl (laws_toStringS_c (by first | assumption | omega)) (by simp [AV.Flat, AV.FlatL, PV.Flat, PV.FlatL]) (flat_map flatS _) rfl rfl ?_
      refine AO.yld _ (Yld.call rfl rfl Try.call54 rfl rfl rfl (spec_TotalSize_c (by first | assumption | omega) (by assumption) (by first | assumption | omega)) rfl) rfl rfl rfl ?_
      refine AO.yld _ (Yld.move rfl) rfl rfl rfl ?_
      refine AO.yld _ (Yld.extract rfl rfl rfl) rfl rfl rfl ?_
      refine AO.yld _ (Yld.extract rfl rfl rfl) rfl rfl rfl ?_
      refine AO.yld _ (Yld.assign rfl) rfl rfl rfl ?_
      refine AO.yld _ (Yld.assign rfl) rfl rfl rfl ?_
      refine AO.nil ?_
      refine AC.seq ?_
      refine AC.region ?_
      refine AO.yld _ (Yld.move rfl) rfl rfl rfl ?_
      refine AO.callMk 2 rfl rfl Try.call16 rfl rfl rfl (laws_toMediaS_c (by first | assumption | omega)) (by simp [AV.Flat, AV.FlatL, PV.Flat, PV.FlatL]) (flat_map flatNV _) rfl rfl ?_
      refine AO.yld _ (Yld.assign rfl) rfl rfl rfl ?_
      refine AO.nil ?_
      refine AC.seq ?_
      refine AC.region ?_
      refine AO.yld _ (Yld.move rfl) rfl rfl rfl ?_
      refine AO.callMk 3 rfl rfl Try.call55 rfl rfl rfl (laws_toStringS_c (by first | assumption | omega)) (by simp [AV.Flat, AV.FlatL, PV.Flat, PV.FlatL]) (flat_map flatS _) rfl rfl ?_
      refine AO.yld _ (Yld.assign rfl) rfl rfl rfl ?_
      refine AO.nil ?_
      refine AC.seq ?_
      refine AC.region ?_
      refine AO.yld _ (Yld.move rfl) rfl rfl rfl ?_
      refine AO.yld _ (Yld.move rfl) rfl rfl rfl ?_
      refine AO.yld _ (Yld.call rfl rfl Try.call56 rfl rfl rfl (impl_TotalSize_c (by first | assumption | omega) (by assumption) (by first | assumption | omega)) rfl) rfl rfl rfl ?_
      refine AO.yld _ (Yld.move rfl) rfl rfl rfl ?_
      refine AO.yld _ (Yld.extract rfl rfl rfl) rfl rfl rfl ?_
      refine AO.yld _ (Yld.extract rfl rfl rfl) rfl rfl rfl ?_
      refine AO.yld _ (Yld.assign rfl) rfl rfl rfl ?_
      refine AO.yld _ (Yld.assign rfl) rfl rfl rfl ?_
      refine AO.nil ?_
      refine AC.seq ?_
      refine AC.seq ?_
      refine AC.region ?_
      refine AO.yld _ (Yld.move rfl) rfl rfl rfl ?_
      refine AO.yld _ (Yld.move rfl) rfl rfl rfl ?_
      refine AO.yld _ (Yld.int rfl rfl rfl) rfl rfl rfl ?_
      refine AO.yld _ (Yld.move rfl) rfl rfl rfl ?_
      refine AO.splitAt 43 _ rfl (fun s43 => ?_) (fun s43 => ?_)
      · -- s43 True
        refine AO.skipF rfl rfl rfl rfl rfl ?_
        refine AO.skipF rfl rfl rfl rfl rfl ?_
        refine AO.skipF rfl rfl rfl rfl rfl ?_
        refine AO.yld _ (Yld.pickT rfl rfl) rfl rfl rfl ?_
        refine AO.nil ?_
        refine AC.condT rfl ?_
        refine AC.seq ?_
        refine AC.region ?_
        refine AO.yld _ (Yld.assign rfl) rfl rfl rfl ?_
        refine AO.nil ?_
        refine Pure.ret Try.results11 (RVs.cons (RV.tmp rfl) RVs.nil) rfl ?_
        first | rfl | (simp_all; done) | (simp_all; intros; omega) | grind
      · -- s43 False
        refine AO.yldG _ (Yld.move rfl) rfl rfl rfl rfl rfl ?_
        refine AO.yldG _ (Yld.move rfl) rfl rfl rfl rfl rfl ?_
        refine AO.yldG _ (Yld.int rfl rfl rfl) rfl rfl rfl rfl rfl ?_
        refine AO.yld _ (Yld.pickF rfl rfl) rfl rfl rfl ?_
        refine AO.nil ?_
        refine AC.cond _ rfl (fun c47 => ?_) (fun c47 => ?_)
        · -- c47 True
          refine AC.seq ?_
          refine AC.region ?_
          refine AO.yld _ (Yld.assign rfl) rfl rfl rfl ?_
          refine AO.nil ?_
          refine Pure.ret Try.results11 (RVs.cons (RV.tmp rfl) RVs.nil) rfl ?_
          first | rfl | (simp_all; done) | (simp_all; intros; omega) | grind
        · -- c47 False
          refine AC.skip ?_
          refine AC.seq ?_
          refine AC.seq ?_
          refine AC.region ?_
          refine AO.yld _ (Yld.move rfl) rfl rfl rfl ?_
          refine AO.yld _ (Yld.move rfl) rfl rfl rfl ?_
          refine AO.callMk 4 rfl rfl Try.call16 rfl rfl rfl (laws_toMediaS_c (by first | assumption | omega)) (by simp [AV.Flat, AV.FlatL, PV.Flat, PV.FlatL]) (flat_map flatNV _) rfl rfl ?_
          refine AO.yld _ (Yld.call rfl rfl Try.call18 rfl rfl rfl (laws_eqMediaS_c (by first | assumption | omega)) rfl) rfl rfl rfl ?_
          refine AO.yld _ (Yld.not rfl) rfl rfl rfl ?_
          refine AO.nil ?_
          refine AC.cond _ rfl (fun c52 => ?_) (fun c52 => ?_)
          · -- c52 True
            refine AC.seq ?_
            refine AC.region ?_
            refine AO.yld _ (Yld.assign rfl) rfl rfl rfl ?_
            refine AO.nil ?_
            refine Pure.ret Try.results11 (RVs.cons (RV.tmp rfl) RVs.nil) rfl ?_
            first | rfl | (simp_all; done) | (simp_all; intros; omega) | grind
          · -- c52 False
            refine AC.skip ?_
            refine AC.seq ?_
            refine AC.seq ?_
            refine AC.region ?_
            refine AO.yld _ (Yld.move rfl) rfl rfl rfl ?_
            refine AO.yld _ (Yld.move rfl) rfl rfl rfl ?_
            refine AO.callMk 5 rfl rfl Try.call55 rfl rfl rfl (laws_toStringS_c (by first | assumption | omega)) (by simp [AV.Flat, AV.FlatL, PV.Flat, PV.FlatL]) (flat_map flatS _) rfl rfl ?_
            refine AO.yld _ (Yld.call rfl rfl Try.call57 rfl rfl rfl (laws_eqStringS_c (by first | assumption | omega)) rfl) rfl rfl rfl ?_
            refine AO.yld _ (Yld.not rfl) rfl rfl rfl ?_
            refine AO.nil ?_
            refine AC.cond _ rfl (fun c57 => ?_) (fun c57 => ?_)
            · -- c57 True
              refine AC.seq ?_
              refine AC.region ?_
              refine AO.yld _ (Yld.assign rfl) rfl rfl rfl ?_
              refine AO.nil ?_
              refine Pure.ret Try.results11 (RVs.cons (RV.tmp rfl) RVs.nil) rfl ?_
              first | rfl | (simp_all; done) | (simp_all; intros; omega) | grind
            · -- c57 False
              refine AC.skip ?_
              refine AC.seq ?_
              refine AC.region ?_
              refine AO.yld _ (Yld.assign rfl) rfl rfl rfl ?_
              refine AO.nil ?_
              refine Pure.ret Try.results11 (RVs.cons (RV.tmp rfl) RVs.nil) rfl ?_
              first | rfl | (simp_all; done) | (simp_all; intros; omega) | grind

theorem laws_FnExactFitMarks_c {xs : List CMark} (hb_xs : xs.length ≤ 9223372036854775807) (hw_xs : ∀ x ∈ xs, i64b x.az ∧ i64b x.al ∧ i64b x.found ∧ i64b x.height) :
    Pure Try.prog 13 [.sl 4 (xs.map encCMark)] (.v (.bool true)) := by
  refine Pure.intro Try.func13 rfl Try.ntmps13 rfl rfl (fun w => ?_)
  refine AC.seq ?_
  refine AC.region ?_
  refine AO.yld _ (Yld.assign rfl) rfl rfl rfl ?_
  refine AO.nil ?_
  refine AC.seq ?_
  refine AC.region ?_
  refine AO.yld _ (Yld.assign rfl) rfl rfl rfl ?_
  refine AO.nil ?_
  refine AC.seq ?_
  refine AC.region ?_
  refine AO.yld _ (Yld.move rfl) rfl rfl rfl ?_
  refine AO.yld _ (Yld.move rfl) rfl rfl rfl ?_
  refine AO.yld _ (Yld.call rfl rfl Try.call60 rfl rfl rfl (laws_szMarkS_c (by omega) (by omega) (by first | assumption | omega)) rfl) rfl rfl rfl ?_
  refine AO.yld _ (Yld.assign rfl) rfl rfl rfl ?_
  refine AO.nil ?_
  refine AC.seq ?_
  refine AC.seq ?_
  refine AC.region ?_
  refine AO.yld _ (Yld.move rfl) rfl rfl rfl ?_
  refine AO.yld _ (Yld.int rfl rfl rfl) rfl rfl rfl ?_
  refine AO.nil ?_
  refine AC.cond _ rfl (fun c15 => ?_) (fun c15 => ?_)
  · -- c15 True
    refine AC.seq ?_
    refine AC.region ?_
    refine AO.yld _ (Yld.assign rfl) rfl rfl rfl ?_
    refine AO.nil ?_
    refine Pure.ret Try.results13 (RVs.cons (RV.tmp rfl) RVs.nil) rfl ?_
    first | rfl | (simp_all; done) | (simp_all; intros; omega) | grind
  · -- c15 False
    have hz_xs := szLen_ge c15
    have hn_xs : xs.length ≤ 1048576 := by omega
    refine AC.skip ?_
    refine AC.seq ?_
    refine AC.region ?_
    refine AO.yld _ (Yld.move rfl) rfl rfl rfl ?_
    refine AO.callMk 0 rfl rfl Try.call62 rfl rfl rfl (laws_toMarkS_c (by first | assumption | omega)) (by simp [AV.Flat, AV.FlatL, PV.Flat, PV.FlatL]) (flat_map flatCMark _) rfl rfl ?_
    refine AO.yld _ (Yld.call rfl rfl Try.call61 rfl rfl rfl (spec_FitMarks_c (by first | assumption | omega) (by assumption)) rfl) rfl rfl rfl ?_
    refine AO.yld _ (Yld.move rfl) rfl rfl rfl ?_
    refine AO.yld _ (Yld.extract rfl rfl rfl) rfl rfl rfl ?_
    refine AO.yld _ (Yld.extract rfl rfl rfl) rfl rfl rfl ?_
    refine AO.yld _ (Yld.extract rfl rfl rfl) rfl rfl rfl ?_
    refine AO.yld _ (Yld.assign rfl) rfl rfl rfl ?_
    refine AO.yld _ (Yld.assign rfl) rfl rfl rfl ?_
    refine AO.yld _ (Yld.assign rfl) rfl rfl rfl ?_
    refine AO.nil ?_
    refine AC.seq ?_
    refine AC.region ?_
    refine AO.yld _ (Yld.move rfl) rfl rfl rfl ?_
    refine AO.callMk 1 rfl rfl Try.call62 rfl rfl rfl (laws_toMarkS_c (by first | assumption | omega)) (by simp [AV.Flat, AV.FlatL, PV.Flat, PV.FlatL]) (flat_map flatCMark _) rfl rfl ?_
    refine AO.yld _ (Yld.assign rfl) rfl rfl rfl ?_
    refine AO.nil ?_
    refine AC.seq ?_
    refine AC.region ?_
    refine AO.yld _ (Yld.move rfl) rfl rfl rfl ?_
    refine AO.yld _ (Yld.call rfl rfl Try.call63 rfl rfl rfl (impl_FitMarks_c (by first | assumption | omega) (by assumption)) rfl) rfl rfl rfl ?_
    refine AO.yld _ (Yld.move rfl) rfl rfl rfl ?_
    refine AO.yld _ (Yld.extract rfl rfl rfl) rfl rfl rfl ?_
    refine AO.yld _ (Yld.extract rfl rfl rfl) rfl rfl rfl ?_
    refine AO.yld _ (Yld.extract rfl rfl rfl) rfl rfl rfl ?_
    refine AO.yld _ (Yld.assign rfl) rfl rfl rfl ?_
    refine AO.yld _ (Yld.assign rfl) rfl rfl rfl ?_
    refine AO.yld _ (Yld.assign rfl) rfl rfl rfl ?_
    refine AO.nil ?_
    refine AC.seq ?_
    refine AC.seq ?_
    refine AC.region ?_
    refine AO.yld _ (Yld.move rfl) rfl rfl rfl ?_
    refine AO.yld _ (Yld.move rfl) rfl rfl rfl ?_
    refine AO.yld _ (Yld.int rfl rfl rfl) rfl rfl rfl ?_
    refine AO.yld _ (Yld.move rfl) rfl rfl rfl ?_
    refine AO.splitAt 34 _ rfl (fun s34 => ?_) (fun s34 => ?_)
    · -- s34 True
      refine AO.skipF rfl rfl rfl rfl rfl ?_
      refine AO.skipF rfl rfl rfl rfl rfl ?_
      refine AO.skipF rfl rfl rfl rfl rfl ?_
      refine AO.yld _ (Yld.pickT rfl rfl) rfl rfl rfl ?_
      refine AO.yld _ (Yld.move rfl) rfl rfl rfl ?_
      refine AO.skipF rfl rfl rfl rfl rfl ?_
      refine AO.skipF rfl rfl rfl rfl rfl ?_
      refine AO.skipF rfl rfl rfl rfl rfl ?_
      refine AO.yld _ (Yld.pickT rfl rfl) rfl rfl rfl ?_
      refine AO.nil ?_
      refine AC.condT rfl ?_
      refine AC.seq ?_
      refine AC.region ?_
      refine AO.yld _ (Yld.assign rfl) rfl rfl rfl ?_
      refine AO.nil ?_
      refine Pure.ret Try.results13 (RVs.cons (RV.tmp rfl) RVs.nil) rfl ?_
      first | rfl | (simp_all; done) | (simp_all; intros; omega) | grind
    · -- s34 False
      refine AO.yldG _ (Yld.move rfl) rfl rfl rfl rfl rfl ?_
      refine AO.yldG _ (Yld.move rfl) rfl rfl rfl rfl rfl ?_
      refine AO.yldG _ (Yld.int rfl rfl rfl) rfl rfl rfl rfl rfl ?_
      refine AO.yld _ (Yld.pickF rfl rfl) rfl rfl rfl ?_
      refine AO.yld _ (Yld.move rfl) rfl rfl rfl ?_
      refine AO.splitAt 39 _ rfl (fun s39 => ?_) (fun s39 => ?_)
      · -- s39 True
        refine AO.skipF rfl rfl rfl rfl rfl ?_
        refine AO.skipF rfl rfl rfl rfl rfl ?_
        refine AO.skipF rfl rfl rfl rfl rfl ?_
        refine AO.yld _ (Yld.pickT rfl rfl) rfl rfl rfl ?_
        refine AO.nil ?_
        refine AC.condT rfl ?_
        refine AC.seq ?_
        refine AC.region ?_
        refine AO.yld _ (Yld.assign rfl) rfl rfl rfl ?_
        refine AO.nil ?_
        refine Pure.ret Try.results13 (RVs.cons (RV.tmp rfl) RVs.nil) rfl ?_
        first | rfl | (simp_all; done) | (simp_all; intros; omega) | grind
      · -- s39 False
        refine AO.yldG _ (Yld.move rfl) rfl rfl rfl rfl rfl ?_
        refine AO.yldG _ (Yld.move rfl) rfl rfl rfl rfl rfl ?_
        refine AO.yldG _ (Yld.int rfl rfl rfl) rfl rfl rfl rfl rfl ?_
        refine AO.yld _ (Yld.pickF rfl rfl) rfl rfl rfl ?_
        refine AO.nil ?_
        refine AC.cond _ rfl (fun c43 => ?_) (fun c43 => ?_)
        · -- c43 True
          refine AC.seq ?_
          refine AC.region ?_
          refine AO.yld _ (Yld.assign rfl) rfl rfl rfl ?_
          refine AO.nil ?_
          refine Pure.ret Try.results13 (RVs.cons (RV.tmp rfl) RVs.nil) rfl ?_
          first | rfl | (simp_all; done) | (simp_all; intros; omega) | grind
        · -- c43 False
          refine AC.skip ?_
          refine AC.seq ?_
          refine AC.seq ?_
          refine AC.region ?_
          refine AO.yld _ (Yld.move rfl) rfl rfl rfl ?_
          refine AO.yld _ (Yld.move rfl) rfl rfl rfl ?_
          refine AO.callMk 2 rfl rfl Try.call62 rfl rfl rfl (laws_toMarkS_c (by first | assumption | omega)) (by simp [AV.Flat, AV.FlatL, PV.Flat, PV.FlatL]) (flat_map flatCMark _) rfl rfl ?_
          refine AO.yld _ (Yld.call rfl rfl Try.call64 rfl rfl rfl (laws_eqMarkS_c (by first | assumption | omega)) rfl) rfl rfl rfl ?_
          refine AO.yld _ (Yld.not rfl) rfl rfl rfl ?_
          refine AO.nil ?_
          refine AC.cond _ rfl (fun c48 => ?_) (fun c48 => ?_)
          · -- c48 True
            refine AC.seq ?_
            refine AC.region ?_
            refine AO.yld _ (Yld.assign rfl) rfl rfl rfl ?_
            refine AO.nil ?_
            refine Pure.ret Try.results13 (RVs.cons (RV.tmp rfl) RVs.nil) rfl ?_
            first | rfl | (simp_all; done) | (simp_all; intros; omega) | grind
          · -- c48 False
            refine AC.skip ?_
            refine AC.seq ?_
            refine AC.region ?_
            refine AO.yld _ (Yld.assign rfl) rfl rfl rfl ?_
            refine AO.nil ?_
            refine Pure.ret Try.results13 (RVs.cons (RV.tmp rfl) RVs.nil) rfl ?_
            first | rfl | (simp_all; done) | (simp_all; intros; omega) | grind

end Go.Proofs.Ytglblonacmhceaa
