/- Contracts of functions of the program, each by a walk of its text in the calculus V. -/
import Derived.Test.YtaanabofedickaaR3A
import Derived.Test.YtaanabofedickaaD12
set_option linter.all false
set_option linter.unusedSimpArgs false
set_option linter.unnecessarySimpa false
set_option linter.unusedVariables false
namespace Go.Proofs.Ytaanabofedickaa
open Go Go.V
theorem ty147 : TyIs Try.prog 147 (.agg #[.int .i64 0, .string ⟨#[]⟩, .int .i64 0]) 3 32 := by unfold TyIs; kernel_rfl
theorem bld147 : BuildIs Try.prog 147 [(0, 1), (1, 2)] (.agg #[.int .i64 0, .string ⟨#[]⟩, .int .i64 0]) := by
  intro ps cells w h
  have h2 : Instr.fill (fun i => ([(0, 1), (1, 2)] : List (Nat × Nat))[i]?) #[.int .i64 0, .string ⟨#[]⟩, .int .i64 0] ps.toList = some cells := h
  simp [Instr.build, go_sem, Try.zeroValue147, run_underlying Try.underlying147, Try.sizeOf2, Try.sizeOf145, h2]

theorem spec_l27Memo_c {s : List UInt8} (hn : s.length ≤ 1048576) :
    Pure Try.prog 130 [.v (str s)] (.v (.bool (okMemo s))) := by
  refine Pure.intro Try.func130 rfl Try.ntmps130 rfl rfl (fun w => ?_)
  refine AC.seq ?_
  refine AC.region ?_
  refine AO.yld _ (Yld.assign rfl) rfl rfl rfl ?_
  refine AO.nil ?_
  refine AC.seq ?_
  refine AC.seq ?_
  refine AC.region ?_
  refine AO.yld _ (Yld.assign rfl) rfl rfl rfl ?_
  refine AO.nil ?_
  refine AC.block ?_
  refine AC.loopC [(0, _)] [] (fun (k : Nat) => [(3, .p (.v (.int .i64 (k : Int))))]) (fun (k : Nat) => []) (fun (k : Nat) => k ≤ s.length ∧ allTo memoByte s k = true) (fun (k : Nat) => s.length - k) 0 ⟨rfl, trivial⟩ trivial ⟨rfl, trivial⟩ trivial ?_ (fun k hJ => ?_)
  · exact ⟨Nat.zero_le _, rfl⟩
  · -- round
    refine AC.seq ?_
    refine AC.seq ?_
    refine AC.region ?_
    refine AO.yld _ (Yld.move rfl) rfl rfl rfl ?_
    refine AO.yld _ (Yld.move rfl) rfl rfl rfl ?_
    refine AO.yld _ (Yld.lenStr Try.underlying9 rfl) rfl rfl rfl ?_
    refine AO.yld _ (Yld.int rfl rfl rfl) rfl rfl rfl ?_
    refine AO.nil ?_
    refine AC.cond _ rfl (fun c7 => ?_) (fun c7 => ?_)
    · -- c7 True
      have hk := lt_of_dec c7
      obtain ⟨x, hx⟩ := get_some hk
      refine AC.skip ?_
      refine AC.seq ?_
      refine AC.block ?_
      refine AC.seq ?_
      refine AC.region ?_
      refine AO.yld _ (Yld.move rfl) rfl rfl rfl ?_
      refine AO.yld _ (Yld.move rfl) rfl rfl rfl ?_
      refine AO.yld _ (Yld.indexStr Try.underlying9 rfl rfl (by omega) (by simpa using hx)) rfl rfl rfl ?_
      refine AO.yld _ (Yld.int rfl rfl rfl) rfl rfl rfl ?_
      refine AO.yld _ (Yld.move rfl) rfl rfl rfl ?_
      refine AO.splitAt 14 _ rfl (fun s14 => ?_) (fun s14 => ?_)
      · -- s14 True
        refine AO.skipF rfl rfl rfl rfl rfl ?_
        refine AO.skipF rfl rfl rfl rfl rfl ?_
        refine AO.skipF rfl rfl rfl rfl rfl ?_
        refine AO.skipF rfl rfl rfl rfl rfl ?_
        refine AO.yld _ (Yld.pickT rfl rfl) rfl rfl rfl ?_
        refine AO.nil ?_
        refine AC.condT rfl ?_
        refine AC.seq ?_
        refine AC.region ?_
        refine AO.yld _ (Yld.assign rfl) rfl rfl rfl ?_
        refine AO.nil ?_
        refine Pure.ret Try.results130 (RVs.cons (RV.tmp rfl) RVs.nil) rfl ?_
        first
          | (refine cb ?_; rw [okMemo, all_miss hx (by simp only [memoByte]; first | (simp_all; done) | (simp_all; omega) | (simp_all; intros; omega)), Bool.false_and])
          | (refine cb ?_; rw [okMemo, all_memo hJ.2, Bool.true_and]; exact decide_eq_decide.2 (by omega))
      · -- s14 False
        refine AO.yldG _ (Yld.move rfl) rfl rfl rfl rfl rfl ?_
        refine AO.yldG _ (Yld.move rfl) rfl rfl rfl rfl rfl ?_
        refine AO.yldG _ (Yld.indexStr Try.underlying9 rfl rfl (by omega) (by simpa using hx)) rfl rfl rfl rfl rfl ?_
        refine AO.yldG _ (Yld.int rfl rfl rfl) rfl rfl rfl rfl rfl ?_
        refine AO.yld _ (Yld.pickF rfl rfl) rfl rfl rfl ?_
        refine AO.nil ?_
        refine AC.cond _ rfl (fun c19 => ?_) (fun c19 => ?_)
        · -- c19 True
          refine AC.seq ?_
          refine AC.region ?_
          refine AO.yld _ (Yld.assign rfl) rfl rfl rfl ?_
          refine AO.nil ?_
          refine Pure.ret Try.results130 (RVs.cons (RV.tmp rfl) RVs.nil) rfl ?_
          first
            | (refine cb ?_; rw [okMemo, all_miss hx (by simp only [memoByte]; first | (simp_all; done) | (simp_all; omega) | (simp_all; intros; omega)), Bool.false_and])
            | (refine cb ?_; rw [okMemo, all_memo hJ.2, Bool.true_and]; exact decide_eq_decide.2 (by omega))
        · -- c19 False
          refine AC.skip ?_
          refine AC.mark ?_
          refine AC.region ?_
          refine AO.yld _ (Yld.move rfl) rfl rfl rfl ?_
          refine AO.yld _ (Yld.add rfl rfl (by omega) (by omega)) rfl rfl rfl ?_
          refine AO.yld _ (Yld.assign rfl) rfl rfl rfl ?_
          refine AO.nil ?_
          refine AC.back ⟨k + 1, ?_, ?_, ⟨?_, trivial⟩, trivial, ⟨rfl, trivial⟩, trivial⟩
          · exact ⟨hk, by rw [allTo_succ hx, hJ.2, Bool.true_and]; exact (by simp only [memoByte]; first | (simp_all; done) | (simp_all; omega) | (simp_all; intros; omega))⟩
          · omega
          · rfl
    · -- c7 False
      obtain rfl : k = s.length := by have := ge_of_dec c7; omega
      refine AC.exit rfl ?_
      refine AC.seq ?_
      refine AC.region ?_
      refine AO.yld _ (Yld.move rfl) rfl rfl rfl ?_
      refine AO.yld _ (Yld.lenStr Try.underlying9 rfl) rfl rfl rfl ?_
      refine AO.yld _ (Yld.int rfl rfl rfl) rfl rfl rfl ?_
      refine AO.yld _ (Yld.assign rfl) rfl rfl rfl ?_
      refine AO.nil ?_
      refine Pure.ret Try.results130 (RVs.cons (RV.tmp rfl) RVs.nil) rfl ?_
      first
        | (refine cb ?_; rw [okMemo, all_miss hx (by simp only [memoByte]; first | (simp_all; done) | (simp_all; omega) | (simp_all; intros; omega)), Bool.false_and])
        | (refine cb ?_; rw [okMemo, all_memo hJ.2, Bool.true_and]; exact decide_eq_decide.2 (by omega))

theorem impl_validMemo_c {s : List UInt8} (hn : s.length ≤ 1048576) :
    Pure Try.prog 71 [.v (str s)] (.v (.bool (okMemo s))) := by
  refine Pure.intro Try.func71 rfl Try.ntmps71 rfl rfl (fun w => ?_)
  refine AC.seq ?_
  refine AC.region ?_
  refine AO.yld _ (Yld.assign rfl) rfl rfl rfl ?_
  refine AO.nil ?_
  refine AC.seq ?_
  refine AC.seq ?_
  refine AC.region ?_
  refine AO.yld _ (Yld.move rfl) rfl rfl rfl ?_
  refine AO.yld _ (Yld.lenStr Try.underlying9 rfl) rfl rfl rfl ?_
  refine AO.yld _ (Yld.int rfl rfl rfl) rfl rfl rfl ?_
  refine AO.nil ?_
  refine AC.cond _ rfl (fun c6 => ?_) (fun c6 => ?_)
  · -- c6 True
    refine AC.seq ?_
    refine AC.region ?_
    refine AO.yld _ (Yld.assign rfl) rfl rfl rfl ?_
    refine AO.nil ?_
    refine Pure.ret Try.results71 (RVs.cons (RV.tmp rfl) RVs.nil) rfl ?_
    first
      | (refine cb ?_; rw [okMemo, all_miss hx (by simp only [memoByte]; first | (simp_all; done) | (simp_all; omega) | (simp_all; intros; omega)), Bool.false_and])
      | (refine cb ?_; rw [okMemo, lenN (K := 20) rfl c6]; simp; done)
      | (refine cb ?_; rw [okMemo, lenN (K := 20) rfl c6, all_memo hJ.2]; rfl)
  · -- c6 False
    refine AC.skip ?_
    refine AC.seq ?_
    refine AC.seq ?_
    refine AC.region ?_
    refine AO.yld _ (Yld.assign rfl) rfl rfl rfl ?_
    refine AO.nil ?_
    refine AC.block ?_
    refine AC.loopC [(0, _)] [] (fun (k : Nat) => [(3, .p (.v (.int .i64 (k : Int))))]) (fun (k : Nat) => []) (fun (k : Nat) => k ≤ s.length ∧ allTo memoByte s k = true) (fun (k : Nat) => s.length - k) 0 ⟨rfl, trivial⟩ trivial ⟨rfl, trivial⟩ trivial ?_ (fun k hJ => ?_)
    · exact ⟨Nat.zero_le _, rfl⟩
    · -- round
      refine AC.seq ?_
      refine AC.seq ?_
      refine AC.region ?_
      refine AO.yld _ (Yld.move rfl) rfl rfl rfl ?_
      refine AO.yld _ (Yld.move rfl) rfl rfl rfl ?_
      refine AO.yld _ (Yld.lenStr Try.underlying9 rfl) rfl rfl rfl ?_
      refine AO.yld _ (Yld.int rfl rfl rfl) rfl rfl rfl ?_
      refine AO.nil ?_
      refine AC.cond _ rfl (fun c10 => ?_) (fun c10 => ?_)
      · -- c10 True
        have hk := lt_of_dec c10
        obtain ⟨x, hx⟩ := get_some hk
        refine AC.skip ?_
        refine AC.seq ?_
        refine AC.block ?_
        refine AC.seq ?_
        refine AC.region ?_
        refine AO.yld _ (Yld.move rfl) rfl rfl rfl ?_
        refine AO.yld _ (Yld.move rfl) rfl rfl rfl ?_
        refine AO.yld _ (Yld.indexStr Try.underlying9 rfl rfl (by omega) (by simpa using hx)) rfl rfl rfl ?_
        refine AO.yld _ (Yld.int rfl rfl rfl) rfl rfl rfl ?_
        refine AO.yld _ (Yld.move rfl) rfl rfl rfl ?_
        refine AO.splitAt 17 _ rfl (fun s17 => ?_) (fun s17 => ?_)
        · -- s17 True
          refine AO.skipF rfl rfl rfl rfl rfl ?_
          refine AO.skipF rfl rfl rfl rfl rfl ?_
          refine AO.skipF rfl rfl rfl rfl rfl ?_
          refine AO.skipF rfl rfl rfl rfl rfl ?_
          refine AO.yld _ (Yld.pickT rfl rfl) rfl rfl rfl ?_
          refine AO.nil ?_
          refine AC.condT rfl ?_
          refine AC.seq ?_
          refine AC.region ?_
          refine AO.yld _ (Yld.assign rfl) rfl rfl rfl ?_
          refine AO.nil ?_
          refine Pure.ret Try.results71 (RVs.cons (RV.tmp rfl) RVs.nil) rfl ?_
          first
            | (refine cb ?_; rw [okMemo, all_miss hx (by simp only [memoByte]; first | (simp_all; done) | (simp_all; omega) | (simp_all; intros; omega)), Bool.false_and])
            | (refine cb ?_; rw [okMemo, lenN (K := 20) rfl c6]; simp; done)
            | (refine cb ?_; rw [okMemo, lenN (K := 20) rfl c6, all_memo hJ.2]; rfl)
        · -- s17 False
          refine AO.yldG _ (Yld.move rfl) rfl rfl rfl rfl rfl ?_
          refine AO.yldG _ (Yld.move rfl) rfl rfl rfl rfl rfl ?_
          refine AO.yldG _ (Yld.indexStr Try.underlying9 rfl rfl (by omega) (by simpa using hx)) rfl rfl rfl rfl rfl ?_
          refine AO.yldG _ (Yld.int rfl rfl rfl) rfl rfl rfl rfl rfl ?_
          refine AO.yld _ (Yld.pickF rfl rfl) rfl rfl rfl ?_
          refine AO.nil ?_
          refine AC.cond _ rfl (fun c22 => ?_) (fun c22 => ?_)
          · -- c22 True
            refine AC.seq ?_
            refine AC.region ?_
            refine AO.yld _ (Yld.assign rfl) rfl rfl rfl ?_
            refine AO.nil ?_
            refine Pure.ret Try.results71 (RVs.cons (RV.tmp rfl) RVs.nil) rfl ?_
            first
              | (refine cb ?_; rw [okMemo, all_miss hx (by simp only [memoByte]; first | (simp_all; done) | (simp_all; omega) | (simp_all; intros; omega)), Bool.false_and])
              | (refine cb ?_; rw [okMemo, lenN (K := 20) rfl c6]; simp; done)
              | (refine cb ?_; rw [okMemo, lenN (K := 20) rfl c6, all_memo hJ.2]; rfl)
          · -- c22 False
            refine AC.skip ?_
            refine AC.mark ?_
            refine AC.region ?_
            refine AO.yld _ (Yld.move rfl) rfl rfl rfl ?_
            refine AO.yld _ (Yld.add rfl rfl (by omega) (by omega)) rfl rfl rfl ?_
            refine AO.yld _ (Yld.assign rfl) rfl rfl rfl ?_
            refine AO.nil ?_
            refine AC.back ⟨k + 1, ?_, ?_, ⟨?_, trivial⟩, trivial, ⟨rfl, trivial⟩, trivial⟩
            · exact ⟨hk, by rw [allTo_succ hx, hJ.2, Bool.true_and]; exact (by simp only [memoByte]; first | (simp_all; done) | (simp_all; omega) | (simp_all; intros; omega))⟩
            · omega
            · rfl
      · -- c10 False
        obtain rfl : k = s.length := by have := ge_of_dec c10; omega
        refine AC.exit rfl ?_
        refine AC.seq ?_
        refine AC.region ?_
        refine AO.yld _ (Yld.assign rfl) rfl rfl rfl ?_
        refine AO.nil ?_
        refine Pure.ret Try.results71 (RVs.cons (RV.tmp rfl) RVs.nil) rfl ?_
        first
          | (refine cb ?_; rw [okMemo, all_miss hx (by simp only [memoByte]; first | (simp_all; done) | (simp_all; omega) | (simp_all; intros; omega)), Bool.false_and])
          | (refine cb ?_; rw [okMemo, lenN (K := 20) rfl c6]; simp; done)
          | (refine cb ?_; rw [okMemo, lenN (K := 20) rfl c6, all_memo hJ.2]; rfl)

theorem spec_l27Ok_c {xs : List Ver} (hg : VersGood xs) :
    Pure Try.prog 68 [.sl 4 (xs.map encVer)] (.v (.bool (okVers xs))) := by
  have hn := hg.1
  have hM : (xs.map encVer).length = xs.length := List.length_map ..
  refine Pure.intro Try.func68 rfl Try.ntmps68 rfl rfl (fun w => ?_)
  refine AC.seq ?_
  refine AC.region ?_
  refine AO.yld _ (Yld.assign rfl) rfl rfl rfl ?_
  refine AO.nil ?_
  refine AC.seq ?_
  refine AC.seq ?_
  refine AC.region ?_
  refine AO.yld _ (Yld.assign rfl) rfl rfl rfl ?_
  refine AO.nil ?_
  refine AC.block ?_
  refine AC.loopC [(0, _)] [] (fun (k : Nat) => [(3, .p (.v (.int .i64 (k : Int))))]) (fun (k : Nat) => []) (fun (k : Nat) => k ≤ xs.length ∧ allITo okVer xs k = true) (fun (k : Nat) => xs.length - k) 0 ⟨rfl, trivial⟩ trivial ⟨rfl, trivial⟩ trivial ?_ (fun k hJ => ?_)
  · exact ⟨Nat.zero_le _, rfl⟩
  · -- round
    refine AC.seq ?_
    refine AC.seq ?_
    refine AC.region ?_
    refine AO.yld _ (Yld.move rfl) rfl rfl rfl ?_
    refine AO.yld _ (Yld.move rfl) rfl rfl rfl ?_
    refine AO.yld _ (Yld.len Try.underlying25 rfl rfl) rfl rfl rfl ?_
    refine AO.yld _ (Yld.int rfl rfl rfl) rfl rfl rfl ?_
    refine AO.nil ?_
    refine AC.cond _ rfl (fun c8 => ?_) (fun c8 => ?_)
    · -- c8 True
      have hk := lt_of_decM c8
      obtain ⟨x, hx⟩ := get_some hk
      have hrow := map_row (enc := encVer) hx
      obtain ⟨g1, g2, g3⟩ := hg.2 x (List.mem_of_getElem? hx)
      refine AC.skip ?_
      refine AC.seq ?_
      refine AC.block ?_
      refine AC.seq ?_
      refine AC.region ?_
      refine AO.yld _ (Yld.move rfl) rfl rfl rfl ?_
      refine AO.yld _ (Yld.move rfl) rfl rfl rfl ?_
      refine AO.yld _ (Yld.indexSl Try.underlying25 Try.sizeOf100 rfl rfl hrow rfl) rfl rfl rfl ?_
      refine AO.yld _ (Yld.loadAgg Try.isAgg100 Try.sizeOf100 rfl rfl rfl rfl) rfl rfl rfl ?_
      refine AO.alloc 0 Try.zeroValue100 rfl rfl rfl ?_
      refine AO.store Try.sizeOf100 rfl rfl rfl rfl rfl rfl ?_
      refine AO.nil ?_
      refine AC.seq ?_
      refine AC.region ?_
      refine AO.yld _ (Yld.fieldAddr Try.underlying100 rfl rfl Try.sizeOf2 rfl rfl rfl) rfl rfl rfl ?_
      refine AO.yld _ (Yld.load Try.isAgg2 rfl rfl) rfl rfl rfl ?_
      refine AO.yld _ (Yld.move rfl) rfl rfl rfl ?_
      refine AO.yld _ (Yld.add rfl rfl (by omega) (by omega)) rfl rfl rfl ?_
      refine AO.yld _ (Yld.int rfl rfl rfl) rfl rfl rfl ?_
      refine AO.yld _ (Yld.move rfl) rfl rfl rfl ?_
      refine AO.splitAt 20 _ rfl (fun s20 => ?_) (fun s20 => ?_)
      · -- s20 True
        refine AO.skipF rfl rfl rfl rfl rfl ?_
        refine AO.skipF rfl rfl rfl rfl rfl ?_
        refine AO.skipF rfl rfl rfl rfl rfl ?_
        refine AO.skipF rfl rfl rfl rfl rfl ?_
        refine AO.skipF rfl rfl rfl rfl rfl ?_
        refine AO.yld _ (Yld.pickT rfl rfl) rfl rfl rfl ?_
        refine AO.yld _ (Yld.move rfl) rfl rfl rfl ?_
        refine AO.skipF rfl rfl rfl rfl rfl ?_
        refine AO.skipF rfl rfl rfl rfl rfl ?_
        refine AO.skipF rfl rfl rfl rfl rfl ?_
        refine AO.skipF rfl rfl rfl rfl rfl ?_
        refine AO.yld _ (Yld.pickT rfl rfl) rfl rfl rfl ?_
        refine AO.yld _ (Yld.move rfl) rfl rfl rfl ?_
        refine AO.skipF rfl rfl rfl rfl rfl ?_
        refine AO.skipF rfl rfl rfl rfl rfl ?_
        refine AO.skipF rfl rfl rfl rfl rfl ?_
        refine AO.skipF rfl rfl rfl rfl rfl ?_
        refine AO.yld _ (Yld.pickT rfl rfl) rfl rfl rfl ?_
        refine AO.nil ?_
        refine AC.condT rfl ?_
        refine AC.seq ?_
        refine AC.region ?_
        refine AO.yld _ (Yld.assign rfl) rfl rfl rfl ?_
        refine AO.nil ?_
        refine Pure.ret Try.results68 (RVs.cons (RV.tmp rfl) RVs.nil) rfl ?_
        first
          | (refine cb ?_; rw [okVers, allI_miss hx (by simp only [okVer]; first | grind | (simp_all; done)), Bool.false_and])
          | (refine cb ?_; rw [okVers, allI_take hJ.2, Bool.true_and, hM]; exact decide_eq_decide.2 (by omega))
      · -- s20 False
        refine AO.yldG _ (Yld.fieldAddr Try.underlying100 rfl rfl Try.sizeOf2 rfl rfl rfl) rfl rfl rfl rfl rfl ?_
        refine AO.yldG _ (Yld.load Try.isAgg2 rfl rfl) rfl rfl rfl rfl rfl ?_
        refine AO.yldG _ (Yld.move rfl) rfl rfl rfl rfl rfl ?_
        refine AO.yldG _ (Yld.call rfl rfl Try.call119 rfl rfl rfl (spec_l00In_c) rfl) rfl rfl rfl rfl rfl ?_
        refine AO.yldG _ (Yld.not rfl) rfl rfl rfl rfl rfl ?_
        refine AO.yld _ (Yld.pickF rfl rfl) rfl rfl rfl ?_
        refine AO.yld _ (Yld.move rfl) rfl rfl rfl ?_
        refine AO.splitAt 27 _ rfl (fun s27 => ?_) (fun s27 => ?_)
        · -- s27 True
          refine AO.skipF rfl rfl rfl rfl rfl ?_
          refine AO.skipF rfl rfl rfl rfl rfl ?_
          refine AO.skipF rfl rfl rfl rfl rfl ?_
          refine AO.skipF rfl rfl rfl rfl rfl ?_
          refine AO.yld _ (Yld.pickT rfl rfl) rfl rfl rfl ?_
          refine AO.yld _ (Yld.move rfl) rfl rfl rfl ?_
          refine AO.skipF rfl rfl rfl rfl rfl ?_
          refine AO.skipF rfl rfl rfl rfl rfl ?_
          refine AO.skipF rfl rfl rfl rfl rfl ?_
          refine AO.skipF rfl rfl rfl rfl rfl ?_
          refine AO.yld _ (Yld.pickT rfl rfl) rfl rfl rfl ?_
          refine AO.nil ?_
          refine AC.condT rfl ?_
          refine AC.seq ?_
          refine AC.region ?_
          refine AO.yld _ (Yld.assign rfl) rfl rfl rfl ?_
          refine AO.nil ?_
          refine Pure.ret Try.results68 (RVs.cons (RV.tmp rfl) RVs.nil) rfl ?_
          first
            | (refine cb ?_; rw [okVers, allI_miss hx (by simp only [okVer]; first | grind | (simp_all; done)), Bool.false_and])
            | (refine cb ?_; rw [okVers, allI_take hJ.2, Bool.true_and, hM]; exact decide_eq_decide.2 (by omega))
        · -- s27 False
          refine AO.yldG _ (Yld.fieldAddr Try.underlying100 rfl rfl Try.sizeOf9 rfl rfl rfl) rfl rfl rfl rfl rfl ?_
          refine AO.yldG _ (Yld.load Try.isAgg9 rfl rfl) rfl rfl rfl rfl rfl ?_
          refine AO.yldG _ (Yld.call rfl rfl Try.call130 rfl rfl rfl (spec_l27Memo_c (by first | assumption | omega)) rfl) rfl rfl rfl rfl rfl ?_
          refine AO.yldG _ (Yld.not rfl) rfl rfl rfl rfl rfl ?_
          refine AO.yld _ (Yld.pickF rfl rfl) rfl rfl rfl ?_
          refine AO.yld _ (Yld.move rfl) rfl rfl rfl ?_
          refine AO.splitAt 33 _ rfl (fun s33 => ?_) (fun s33 => ?_)
          · -- s33 True
            refine AO.skipF rfl rfl rfl rfl rfl ?_
            refine AO.skipF rfl rfl rfl rfl rfl ?_
            refine AO.skipF rfl rfl rfl rfl rfl ?_
            refine AO.skipF rfl rfl rfl rfl rfl ?_
            refine AO.yld _ (Yld.pickT rfl rfl) rfl rfl rfl ?_
            refine AO.nil ?_
            refine AC.condT rfl ?_
            refine AC.seq ?_
            refine AC.region ?_
            refine AO.yld _ (Yld.assign rfl) rfl rfl rfl ?_
            refine AO.nil ?_
            refine Pure.ret Try.results68 (RVs.cons (RV.tmp rfl) RVs.nil) rfl ?_
            first
              | (refine cb ?_; rw [okVers, allI_miss hx (by simp only [okVer]; first | grind | (simp_all; done)), Bool.false_and])
              | (refine cb ?_; rw [okVers, allI_take hJ.2, Bool.true_and, hM]; exact decide_eq_decide.2 (by omega))
          · -- s33 False
            refine AO.yldG _ (Yld.fieldAddr Try.underlying100 rfl rfl Try.sizeOf67 rfl rfl rfl) rfl rfl rfl rfl rfl ?_
            refine AO.yldG _ (Yld.load Try.isAgg67 rfl rfl) rfl rfl rfl rfl rfl ?_
            refine AO.yldG _ (Yld.call rfl rfl Try.call103 rfl rfl rfl (spec_l27State_c (by first | assumption | omega) (by assumption)) rfl) rfl rfl rfl rfl rfl ?_
            refine AO.yldG _ (Yld.not rfl) rfl rfl rfl rfl rfl ?_
            refine AO.yld _ (Yld.pickF rfl rfl) rfl rfl rfl ?_
            refine AO.nil ?_
            refine AC.cond _ rfl (fun c38 => ?_) (fun c38 => ?_)
            · -- c38 True
              refine AC.seq ?_
              refine AC.region ?_
              refine AO.yld _ (Yld.assign rfl) rfl rfl rfl ?_
              refine AO.nil ?_
              refine Pure.ret Try.results68 (RVs.cons (RV.tmp rfl) RVs.nil) rfl ?_
              first
                | (refine cb ?_; rw [okVers, allI_miss hx (by simp only [okVer]; first | grind | (simp_all; done)), Bool.false_and])
                | (refine cb ?_; rw [okVers, allI_take hJ.2, Bool.true_and, hM]; exact decide_eq_decide.2 (by omega))
            · -- c38 False
              refine AC.skip ?_
              refine AC.mark ?_
              refine AC.region ?_
              refine AO.yld _ (Yld.move rfl) rfl rfl rfl ?_
              refine AO.yld _ (Yld.add rfl rfl (by omega) (by omega)) rfl rfl rfl ?_
              refine AO.yld _ (Yld.assign rfl) rfl rfl rfl ?_
              refine AO.nil ?_
              refine AC.back ⟨k + 1, ?_, ?_, ⟨?_, trivial⟩, trivial, ⟨rfl, trivial⟩, trivial⟩
              · exact ⟨hk, by rw [allITo_succ hx, hJ.2, Bool.true_and]; exact (by simp only [okVer]; first | grind | (simp_all; done))⟩
              · omega
              · rfl
    · -- c8 False
      obtain rfl : k = xs.length := by have := ge_of_decM c8; omega
      refine AC.exit rfl ?_
      refine AC.seq ?_
      refine AC.region ?_
      refine AO.yld _ (Yld.move rfl) rfl rfl rfl ?_
      refine AO.yld _ (Yld.len Try.underlying25 rfl rfl) rfl rfl rfl ?_
      refine AO.yld _ (Yld.int rfl rfl rfl) rfl rfl rfl ?_
      refine AO.yld _ (Yld.assign rfl) rfl rfl rfl ?_
      refine AO.nil ?_
      refine Pure.ret Try.results68 (RVs.cons (RV.tmp rfl) RVs.nil) rfl ?_
      first
        | (refine cb ?_; rw [okVers, allI_miss hx (by simp only [okVer]; first | grind | (simp_all; done)), Bool.false_and])
        | (refine cb ?_; rw [okVers, allI_take hJ.2, Bool.true_and, hM]; exact decide_eq_decide.2 (by omega))

theorem impl_ValidHistory_c {xs : List Ver} (hg : VersGood xs) :
    Pure Try.prog 16 [.sl 4 (xs.map encVer)] (.v (.bool (okVers xs))) := by
  have hn := hg.1
  have hM : (xs.map encVer).length = xs.length := List.length_map ..
  refine Pure.intro Try.func16 rfl Try.ntmps16 rfl rfl (fun w => ?_)
  refine AC.seq ?_
  refine AC.region ?_
  refine AO.yld _ (Yld.assign rfl) rfl rfl rfl ?_
  refine AO.nil ?_
  refine AC.seq ?_
  refine AC.seq ?_
  refine AC.region ?_
  refine AO.yld _ (Yld.move rfl) rfl rfl rfl ?_
  refine AO.yld _ (Yld.len Try.underlying25 rfl rfl) rfl rfl rfl ?_
  refine AO.yld _ (Yld.int rfl rfl rfl) rfl rfl rfl ?_
  refine AO.nil ?_
  refine AC.cond _ rfl (fun c7 => ?_) (fun c7 => ?_)
  · -- c7 True
    refine AC.seq ?_
    refine AC.region ?_
    refine AO.yld _ (Yld.assign rfl) rfl rfl rfl ?_
    refine AO.nil ?_
    refine Pure.ret Try.results16 (RVs.cons (RV.tmp rfl) RVs.nil) rfl ?_
    first
      | (refine cb ?_; rw [okVers, allI_miss hx (by simp only [okVer]; first | grind | (simp_all; done)), Bool.false_and])
      | (refine cb ?_; rw [hM] at c7; rw [okVers, lenN (K := 32) rfl c7]; simp; done)
      | (refine cb ?_; rw [hM] at c7; rw [okVers, lenN (K := 32) rfl c7, allI_take hJ.2]; rfl)
  · -- c7 False
    refine AC.skip ?_
    refine AC.seq ?_
    refine AC.seq ?_
    refine AC.region ?_
    refine AO.yld _ (Yld.move rfl) rfl rfl rfl ?_
    refine AO.yld _ (Yld.len Try.underlying25 rfl rfl) rfl rfl rfl ?_
    refine AO.yld _ (Yld.move rfl) rfl rfl rfl ?_
    refine AO.nil ?_
    refine AC.block ?_
    refine AC.loopC [(8, _), (9, _)] [] (fun (k : Nat) => [(10, .p (.v (.int .i64 (k : Int))))]) (fun (k : Nat) => []) (fun (k : Nat) => k ≤ xs.length ∧ allITo okVer xs k = true) (fun (k : Nat) => xs.length - k) 0 ⟨rfl, rfl, trivial⟩ trivial ⟨rfl, trivial⟩ trivial ?_ (fun k hJ => ?_)
    · exact ⟨Nat.zero_le _, rfl⟩
    · -- round
      refine AC.seq ?_
      refine AC.region ?_
      refine AO.yld _ (Yld.int rfl rfl rfl) rfl rfl rfl ?_
      refine AO.nil ?_
      refine AC.seq ?_
      refine AC.cond _ rfl (fun c11 => ?_) (fun c11 => ?_)
      · -- c11 True
        have hk := lt_of_decM c11
        obtain ⟨x, hx⟩ := get_some hk
        have hrow := map_row (enc := encVer) hx
        obtain ⟨g1, g2, g3⟩ := hg.2 x (List.mem_of_getElem? hx)
        refine AC.skip ?_
        refine AC.seq ?_
        refine AC.block ?_
        refine AC.seq ?_
        refine AC.region ?_
        refine AO.yld _ (Yld.move rfl) rfl rfl rfl ?_
        refine AO.yld _ (Yld.indexSl Try.underlying25 Try.sizeOf100 rfl rfl hrow rfl) rfl rfl rfl ?_
        refine AO.yld _ (Yld.loadAgg Try.isAgg100 Try.sizeOf100 rfl rfl rfl rfl) rfl rfl rfl ?_
        refine AO.alloc 0 Try.zeroValue100 rfl rfl rfl ?_
        refine AO.yld _ (Yld.assign rfl) rfl rfl rfl ?_
        refine AO.store Try.sizeOf100 rfl rfl rfl rfl rfl rfl ?_
        refine AO.nil ?_
        refine AC.seq ?_
        refine AC.region ?_
        refine AO.yld _ (Yld.fieldAddr Try.underlying100 rfl rfl Try.sizeOf2 rfl rfl rfl) rfl rfl rfl ?_
        refine AO.yld _ (Yld.load Try.isAgg2 rfl rfl) rfl rfl rfl ?_
        refine AO.yld _ (Yld.move rfl) rfl rfl rfl ?_
        refine AO.yld _ (Yld.add rfl rfl (by omega) (by omega)) rfl rfl rfl ?_
        refine AO.yld _ (Yld.int rfl rfl rfl) rfl rfl rfl ?_
        refine AO.yld _ (Yld.move rfl) rfl rfl rfl ?_
        refine AO.splitAt 20 _ rfl (fun s20 => ?_) (fun s20 => ?_)
        · -- s20 True
          refine AO.skipF rfl rfl rfl rfl rfl ?_
          refine AO.skipF rfl rfl rfl rfl rfl ?_
          refine AO.skipF rfl rfl rfl rfl rfl ?_
          refine AO.skipF rfl rfl rfl rfl rfl ?_
          refine AO.skipF rfl rfl rfl rfl rfl ?_
          refine AO.yld _ (Yld.pickT rfl rfl) rfl rfl rfl ?_
          refine AO.yld _ (Yld.move rfl) rfl rfl rfl ?_
          refine AO.skipF rfl rfl rfl rfl rfl ?_
          refine AO.skipF rfl rfl rfl rfl rfl ?_
          refine AO.skipF rfl rfl rfl rfl rfl ?_
          refine AO.skipF rfl rfl rfl rfl rfl ?_
          refine AO.yld _ (Yld.pickT rfl rfl) rfl rfl rfl ?_
          refine AO.yld _ (Yld.move rfl) rfl rfl rfl ?_
          refine AO.skipF rfl rfl rfl rfl rfl ?_
          refine AO.skipF rfl rfl rfl rfl rfl ?_
          refine AO.skipF rfl rfl rfl rfl rfl ?_
          refine AO.skipF rfl rfl rfl rfl rfl ?_
          refine AO.yld _ (Yld.pickT rfl rfl) rfl rfl rfl ?_
          refine AO.nil ?_
          refine AC.condT rfl ?_
          refine AC.seq ?_
          refine AC.region ?_
          refine AO.yld _ (Yld.assign rfl) rfl rfl rfl ?_
          refine AO.nil ?_
          refine Pure.ret Try.results16 (RVs.cons (RV.tmp rfl) RVs.nil) rfl ?_
          first
            | (refine cb ?_; rw [okVers, allI_miss hx (by simp only [okVer]; first | grind | (simp_all; done)), Bool.false_and])
            | (refine cb ?_; rw [hM] at c7; rw [okVers, lenN (K := 32) rfl c7]; simp; done)
            | (refine cb ?_; rw [hM] at c7; rw [okVers, lenN (K := 32) rfl c7, allI_take hJ.2]; rfl)
        · -- s20 False
          refine AO.yldG _ (Yld.fieldAddr Try.underlying100 rfl rfl Try.sizeOf2 rfl rfl rfl) rfl rfl rfl rfl rfl ?_
          refine AO.yldG _ (Yld.load Try.isAgg2 rfl rfl) rfl rfl rfl rfl rfl ?_
          refine AO.yldG _ (Yld.move rfl) rfl rfl rfl rfl rfl ?_
          refine AO.yldG _ (Yld.call rfl rfl Try.call70 rfl rfl rfl (impl_within_c) rfl) rfl rfl rfl rfl rfl ?_
          refine AO.yldG _ (Yld.not rfl) rfl rfl rfl rfl rfl ?_
          refine AO.yld _ (Yld.pickF rfl rfl) rfl rfl rfl ?_
          refine AO.yld _ (Yld.move rfl) rfl rfl rfl ?_
          refine AO.splitAt 27 _ rfl (fun s27 => ?_) (fun s27 => ?_)
          · -- s27 True
            refine AO.skipF rfl rfl rfl rfl rfl ?_
            refine AO.skipF rfl rfl rfl rfl rfl ?_
            refine AO.skipF rfl rfl rfl rfl rfl ?_
            refine AO.skipF rfl rfl rfl rfl rfl ?_
            refine AO.yld _ (Yld.pickT rfl rfl) rfl rfl rfl ?_
            refine AO.yld _ (Yld.move rfl) rfl rfl rfl ?_
            refine AO.skipF rfl rfl rfl rfl rfl ?_
            refine AO.skipF rfl rfl rfl rfl rfl ?_
            refine AO.skipF rfl rfl rfl rfl rfl ?_
            refine AO.skipF rfl rfl rfl rfl rfl ?_
            refine AO.yld _ (Yld.pickT rfl rfl) rfl rfl rfl ?_
            refine AO.nil ?_
            refine AC.condT rfl ?_
            refine AC.seq ?_
            refine AC.region ?_
            refine AO.yld _ (Yld.assign rfl) rfl rfl rfl ?_
            refine AO.nil ?_
            refine Pure.ret Try.results16 (RVs.cons (RV.tmp rfl) RVs.nil) rfl ?_
            first
              | (refine cb ?_; rw [okVers, allI_miss hx (by simp only [okVer]; first | grind | (simp_all; done)), Bool.false_and])
              | (refine cb ?_; rw [hM] at c7; rw [okVers, lenN (K := 32) rfl c7]; simp; done)
              | (refine cb ?_; rw [hM] at c7; rw [okVers, lenN (K := 32) rfl c7, allI_take hJ.2]; rfl)
          · -- s27 False
            refine AO.yldG _ (Yld.fieldAddr Try.underlying100 rfl rfl Try.sizeOf9 rfl rfl rfl) rfl rfl rfl rfl rfl ?_
            refine AO.yldG _ (Yld.load Try.isAgg9 rfl rfl) rfl rfl rfl rfl rfl ?_
            refine AO.yldG _ (Yld.call rfl rfl Try.call71 rfl rfl rfl (impl_validMemo_c (by first | assumption | omega)) rfl) rfl rfl rfl rfl rfl ?_
            refine AO.yldG _ (Yld.not rfl) rfl rfl rfl rfl rfl ?_
            refine AO.yld _ (Yld.pickF rfl rfl) rfl rfl rfl ?_
            refine AO.yld _ (Yld.move rfl) rfl rfl rfl ?_
            refine AO.splitAt 33 _ rfl (fun s33 => ?_) (fun s33 => ?_)
            · -- s33 True
              refine AO.skipF rfl rfl rfl rfl rfl ?_
              refine AO.skipF rfl rfl rfl rfl rfl ?_
              refine AO.skipF rfl rfl rfl rfl rfl ?_
              refine AO.skipF rfl rfl rfl rfl rfl ?_
              refine AO.yld _ (Yld.pickT rfl rfl) rfl rfl rfl ?_
              refine AO.nil ?_
              refine AC.condT rfl ?_
              refine AC.seq ?_
              refine AC.region ?_
              refine AO.yld _ (Yld.assign rfl) rfl rfl rfl ?_
              refine AO.nil ?_
              refine Pure.ret Try.results16 (RVs.cons (RV.tmp rfl) RVs.nil) rfl ?_
              first
                | (refine cb ?_; rw [okVers, allI_miss hx (by simp only [okVer]; first | grind | (simp_all; done)), Bool.false_and])
                | (refine cb ?_; rw [hM] at c7; rw [okVers, lenN (K := 32) rfl c7]; simp; done)
                | (refine cb ?_; rw [hM] at c7; rw [okVers, lenN (K := 32) rfl c7, allI_take hJ.2]; rfl)
            · -- s33 False
              refine AO.yldG _ (Yld.fieldAddr Try.underlying100 rfl rfl Try.sizeOf67 rfl rfl rfl) rfl rfl rfl rfl rfl ?_
              refine AO.yldG _ (Yld.load Try.isAgg67 rfl rfl) rfl rfl rfl rfl rfl ?_
              refine AO.yldG _ (Yld.call rfl rfl Try.call72 rfl rfl rfl (impl_ValidState_c (by first | assumption | omega) (by assumption)) rfl) rfl rfl rfl rfl rfl ?_
              refine AO.yldG _ (Yld.not rfl) rfl rfl rfl rfl rfl ?_
              refine AO.yld _ (Yld.pickF rfl rfl) rfl rfl rfl ?_
              refine AO.nil ?_
              refine AC.cond _ rfl (fun c38 => ?_) (fun c38 => ?_)
              · -- c38 True
                refine AC.seq ?_
                refine AC.region ?_
                refine AO.yld _ (Yld.assign rfl) rfl rfl rfl ?_
                refine AO.nil ?_
                refine Pure.ret Try.results16 (RVs.cons (RV.tmp rfl) RVs.nil) rfl ?_
                first
                  | (refine cb ?_; rw [okVers, allI_miss hx (by simp only [okVer]; first | grind | (simp_all; done)), Bool.false_and])
                  | (refine cb ?_; rw [hM] at c7; rw [okVers, lenN (K := 32) rfl c7]; simp; done)
                  | (refine cb ?_; rw [hM] at c7; rw [okVers, lenN (K := 32) rfl c7, allI_take hJ.2]; rfl)
              · -- c38 False
                refine AC.skip ?_
                refine AC.mark ?_
                refine AC.region ?_
                refine AO.yld _ (Yld.add rfl rfl (by omega) (by omega)) rfl rfl rfl ?_
                refine AO.yld _ (Yld.move rfl) rfl rfl rfl ?_
                refine AO.nil ?_
                refine AC.back ⟨k + 1, ?_, ?_, ⟨?_, trivial⟩, trivial, ⟨rfl, rfl, trivial⟩, trivial⟩
                · exact ⟨hk, by rw [allITo_succ hx, hJ.2, Bool.true_and]; exact (by simp only [okVer]; first | grind | (simp_all; done))⟩
                · omega
                · rfl
      · -- c11 False
        obtain rfl : k = xs.length := by have := ge_of_decM c11; omega
        refine AC.exit rfl ?_
        refine AC.seq ?_
        refine AC.region ?_
        refine AO.yld _ (Yld.assign rfl) rfl rfl rfl ?_
        refine AO.nil ?_
        refine Pure.ret Try.results16 (RVs.cons (RV.tmp rfl) RVs.nil) rfl ?_
        first
          | (refine cb ?_; rw [okVers, allI_miss hx (by simp only [okVer]; first | grind | (simp_all; done)), Bool.false_and])
          | (refine cb ?_; rw [hM] at c7; rw [okVers, lenN (K := 32) rfl c7]; simp; done)
          | (refine cb ?_; rw [hM] at c7; rw [okVers, lenN (K := 32) rfl c7, allI_take hJ.2]; rfl)

theorem spec_ValidHistory_c {xs : List Ver} (hg : VersGood xs) :
    Pure Try.prog 14 [.sl 4 (xs.map encVer)] (.v (.bool (okVers xs))) := by
  refine Pure.intro Try.func14 rfl Try.ntmps14 rfl rfl (fun w => ?_)
  refine AC.seq ?_
  refine AC.region ?_
  refine AO.yld _ (Yld.assign rfl) rfl rfl rfl ?_
  refine AO.nil ?_
  refine AC.seq ?_
  refine AC.region ?_
  refine AO.yld _ (Yld.move rfl) rfl rfl rfl ?_
  refine AO.yld _ (Yld.call rfl rfl Try.call68 rfl rfl rfl (spec_l27Ok_c (by assumption)) rfl) rfl rfl rfl ?_
  refine AO.yld _ (Yld.assign rfl) rfl rfl rfl ?_
  refine AO.nil ?_
  refine Pure.ret Try.results14 (RVs.cons (RV.tmp rfl) RVs.nil) rfl ?_
  first | rfl | (simp_all; done) | (simp_all; intros; omega) | grind

theorem spec_l27At_c {xs : List NV} {n : List UInt8} (hn : xs.length ≤ 1048576) :
    Pure Try.prog 104 [.sl 2 (xs.map encNV), .v (str n)] (.v (.int .i64 (idxOf (nameIs n) xs))) := by
  refine Pure.intro Try.func104 rfl Try.ntmps104 rfl rfl (fun w => ?_)
  refine AC.seq ?_
  refine AC.region ?_
  refine AO.yld _ (Yld.assign rfl) rfl rfl rfl ?_
  refine AO.nil ?_
  refine AC.seq ?_
  refine AC.seq ?_
  refine AC.region ?_
  refine AO.yld _ (Yld.assign rfl) rfl rfl rfl ?_
  refine AO.nil ?_
  refine AC.block ?_
  refine AC.loopC [(0, _), (1, _)] [] (fun (k : Nat) => [(5, .p (.v (.int .i64 (k : Int))))]) (fun (k : Nat) => []) (fun (k : Nat) => k ≤ xs.length ∧ anyTo (nameIs n) xs k = false) (fun (k : Nat) => xs.length - k) 0 ⟨rfl, rfl, trivial⟩ trivial ⟨rfl, trivial⟩ trivial ?_ (fun k hJ => ?_)
  · exact ⟨Nat.zero_le _, rfl⟩
  · -- round
    refine AC.seq ?_
    refine AC.seq ?_
    refine AC.region ?_
    refine AO.yld _ (Yld.move rfl) rfl rfl rfl ?_
    refine AO.yld _ (Yld.move rfl) rfl rfl rfl ?_
    refine AO.yld _ (Yld.len Try.underlying67 rfl rfl) rfl rfl rfl ?_
    refine AO.yld _ (Yld.int rfl rfl rfl) rfl rfl rfl ?_
    refine AO.nil ?_
    refine AC.cond _ rfl (fun c9 => ?_) (fun c9 => ?_)
    · -- c9 True
      have hk := lt_of_decM c9
      obtain ⟨x, hx⟩ := get_some hk
      have hrow := map_row (enc := encNV) hx
      refine AC.skip ?_
      refine AC.seq ?_
      refine AC.block ?_
      refine AC.seq ?_
      refine AC.region ?_
      refine AO.yld _ (Yld.move rfl) rfl rfl rfl ?_
      refine AO.yld _ (Yld.move rfl) rfl rfl rfl ?_
      refine AO.yld _ (Yld.indexSl Try.underlying67 Try.sizeOf145 rfl rfl hrow rfl) rfl rfl rfl ?_
      refine AO.yld _ (Yld.fieldAddr Try.underlying145 rfl rfl Try.sizeOf9 rfl rfl rfl) rfl rfl rfl ?_
      refine AO.yld _ (Yld.load Try.isAgg9 rfl rfl) rfl rfl rfl ?_
      refine AO.yld _ (Yld.move rfl) rfl rfl rfl ?_
      refine AO.yld _ (Yld.cmpStr rfl rfl rfl) rfl rfl rfl ?_
      refine AO.nil ?_
      refine AC.cond _ rfl (fun c18 => ?_) (fun c18 => ?_)
      · -- c18 True
        refine AC.seq ?_
        refine AC.region ?_
        refine AO.yld _ (Yld.move rfl) rfl rfl rfl ?_
        refine AO.yld _ (Yld.assign rfl) rfl rfl rfl ?_
        refine AO.nil ?_
        refine Pure.ret Try.results104 (RVs.cons (RV.tmp rfl) RVs.nil) rfl ?_
        first
          | exact ci (idx_hit hJ.2 hx (by simpa [nameIs] using c18)).symm
          | exact ci (idx_hit hJ.2 hx (by simpa [nameIs] using c18))
          | exact ci (idx_miss hJ.2).symm
          | exact ci (idx_miss hJ.2)
      · -- c18 False
        refine AC.skip ?_
        refine AC.mark ?_
        refine AC.region ?_
        refine AO.yld _ (Yld.move rfl) rfl rfl rfl ?_
        refine AO.yld _ (Yld.add rfl rfl (by omega) (by omega)) rfl rfl rfl ?_
        refine AO.yld _ (Yld.assign rfl) rfl rfl rfl ?_
        refine AO.nil ?_
        refine AC.back ⟨k + 1, ?_, ?_, ⟨?_, trivial⟩, trivial, ⟨rfl, rfl, trivial⟩, trivial⟩
        · exact ⟨hk, by rw [anyTo_succ hx, hJ.2]; simpa [nameIs] using c18⟩
        · omega
        · rfl
    · -- c9 False
      obtain rfl : k = xs.length := by have := ge_of_decM c9; omega
      refine AC.exit rfl ?_
      refine AC.seq ?_
      refine AC.region ?_
      refine AO.yld _ (Yld.assign rfl) rfl rfl rfl ?_
      refine AO.nil ?_
      refine Pure.ret Try.results104 (RVs.cons (RV.tmp rfl) RVs.nil) rfl ?_
      first
        | exact ci (idx_hit hJ.2 hx (by simpa [nameIs] using c18)).symm
        | exact ci (idx_hit hJ.2 hx (by simpa [nameIs] using c18))
        | exact ci (idx_miss hJ.2).symm
        | exact ci (idx_miss hJ.2)

theorem indexFuncSetting_c {xs : List NV} {f : FuncId} {caps : List PV} {p : NV → Bool} (hn : xs.length ≤ 1048576) (hf : Enters Try.prog f) (hp : ∀ x ∈ xs, Pure Try.prog f (.agg (encNV x) :: caps) (.v (.bool (p x)))) :
    Pure Try.prog 147 [.sl 2 (xs.map encNV), .clo f caps] (.v (.int .i64 (idxOf p xs))) := by
  refine Pure.intro Try.func147 rfl Try.ntmps147 rfl rfl (fun w => ?_)
  refine AC.seq ?_
  refine AC.region ?_
  refine AO.yld _ (Yld.assign rfl) rfl rfl rfl ?_
  refine AO.nil ?_
  refine AC.seq ?_
  refine AC.seq ?_
  refine AC.region ?_
  refine AO.yld _ (Yld.move rfl) rfl rfl rfl ?_
  refine AO.yld _ (Yld.len Try.underlying67 rfl rfl) rfl rfl rfl ?_
  refine AO.yld _ (Yld.move rfl) rfl rfl rfl ?_
  refine AO.nil ?_
  refine AC.block ?_
  refine AC.loopC [(0, _), (1, _), (7, _)] [] (fun (k : Nat) => [(8, .p (.v (.int .i64 (k : Int))))]) (fun (k : Nat) => []) (fun (k : Nat) => k ≤ xs.length ∧ anyTo p xs k = false) (fun (k : Nat) => xs.length - k) 0 ⟨rfl, rfl, rfl, trivial⟩ trivial ⟨rfl, trivial⟩ trivial ?_ (fun k hJ => ?_)
  · exact ⟨Nat.zero_le _, rfl⟩
  · -- round
    refine AC.seq ?_
    refine AC.region ?_
    refine AO.yld _ (Yld.int rfl rfl rfl) rfl rfl rfl ?_
    refine AO.nil ?_
    refine AC.seq ?_
    refine AC.cond _ rfl (fun c9 => ?_) (fun c9 => ?_)
    · -- c9 True
      have hk := lt_of_decM c9
      obtain ⟨x, hx⟩ := get_some hk
      have hrow := map_row (enc := encNV) hx
      refine AC.skip ?_
      refine AC.seq ?_
      refine AC.block ?_
      refine AC.seq ?_
      refine AC.region ?_
      refine AO.yld _ (Yld.move rfl) rfl rfl rfl ?_
      refine AO.yld _ (Yld.assign rfl) rfl rfl rfl ?_
      refine AO.nil ?_
      refine AC.seq ?_
      refine AC.region ?_
      refine AO.yld _ (Yld.move rfl) rfl rfl rfl ?_
      refine AO.yld _ (Yld.move rfl) rfl rfl rfl ?_
      refine AO.yld _ (Yld.move rfl) rfl rfl rfl ?_
      refine AO.yld _ (Yld.indexSl Try.underlying67 Try.sizeOf145 rfl rfl hrow rfl) rfl rfl rfl ?_
      refine AO.yld _ (Yld.loadAgg Try.isAgg145 Try.sizeOf145 rfl rfl rfl rfl) rfl rfl rfl ?_
      refine AO.yld _ (Yld.call rfl rfl hf rfl rfl (viewL_p _) (hp x (List.mem_of_getElem? hx)) rfl) rfl rfl rfl ?_
      refine AO.nil ?_
      refine AC.cond _ rfl (fun c16 => ?_) (fun c16 => ?_)
      · -- c16 True
        refine AC.seq ?_
        refine AC.region ?_
        refine AO.yld _ (Yld.move rfl) rfl rfl rfl ?_
        refine AO.yld _ (Yld.assign rfl) rfl rfl rfl ?_
        refine AO.nil ?_
        refine Pure.ret Try.results147 (RVs.cons (RV.tmp rfl) RVs.nil) rfl ?_
        first
          | exact ci (idx_hit hJ.2 hx (by simpa using c16))
          | exact ci (idx_miss hJ.2)
      · -- c16 False
        refine AC.skip ?_
        refine AC.mark ?_
        refine AC.region ?_
        refine AO.yld _ (Yld.add rfl rfl (by omega) (by omega)) rfl rfl rfl ?_
        refine AO.yld _ (Yld.move rfl) rfl rfl rfl ?_
        refine AO.nil ?_
        refine AC.back ⟨k + 1, ?_, ?_, ⟨?_, trivial⟩, trivial, ⟨rfl, rfl, rfl, trivial⟩, trivial⟩
        · exact ⟨hk, by rw [anyTo_succ hx, hJ.2]; simpa using c16⟩
        · omega
        · rfl
    · -- c9 False
      obtain rfl : k = xs.length := by have := ge_of_decM c9; omega
      refine AC.exit rfl ?_
      refine AC.seq ?_
      refine AC.region ?_
      refine AO.yld _ (Yld.assign rfl) rfl rfl rfl ?_
      refine AO.nil ?_
      refine Pure.ret Try.results147 (RVs.cons (RV.tmp rfl) RVs.nil) rfl ?_
      first
        | exact ci (idx_hit hJ.2 hx (by simpa using c16))
        | exact ci (idx_miss hJ.2)

theorem settingIndex1_c {x : NV} {n : List UInt8} :
    Pure Try.prog 148 [.agg (encNV x), .ptr [.v (str n)]] (.v (.bool (nameIs n x))) := by
  refine Pure.intro Try.func148 rfl Try.ntmps148 rfl rfl (fun w => ?_)
  refine AC.seq ?_
  refine AC.region ?_
  refine AO.box 0 rfl rfl rfl rfl rfl ?_
  refine AO.yld _ (Yld.assign rfl) rfl rfl rfl ?_
  refine AO.nil ?_
  refine AC.seq ?_
  refine AC.region ?_
  refine AO.yld _ (Yld.fieldAddr Try.underlying145 rfl rfl Try.sizeOf9 rfl rfl rfl) rfl rfl rfl ?_
  refine AO.yld _ (Yld.load Try.isAgg9 rfl rfl) rfl rfl rfl ?_
  refine AO.yld _ (Yld.load Try.isAgg9 rfl rfl) rfl rfl rfl ?_
  refine AO.yld _ (Yld.cmpStr rfl rfl rfl) rfl rfl rfl ?_
  refine AO.yld _ (Yld.assign rfl) rfl rfl rfl ?_
  refine AO.nil ?_
  refine Pure.ret Try.results148 (RVs.cons (RV.tmp rfl) RVs.nil) rfl ?_
  refine cb ?_; unfold nameIs; by_cases h : x.name = n <;> simp [h]

theorem impl_settingIndex_c {xs : List NV} {n : List UInt8} (hn : xs.length ≤ 1048576) :
    Pure Try.prog 106 [.sl 2 (xs.map encNV), .v (str n)] (.v (.int .i64 (idxOf (nameIs n) xs))) := by
  refine Pure.intro Try.func106 rfl Try.ntmps106 rfl rfl (fun w => ?_)
  refine AC.seq ?_
  refine AC.region ?_
  refine AO.box 0 rfl rfl rfl rfl rfl ?_
  refine AO.yld _ (Yld.assign rfl) rfl rfl rfl ?_
  refine AO.nil ?_
  refine AC.seq ?_
  refine AC.region ?_
  refine AO.yld _ (Yld.move rfl) rfl rfl rfl ?_
  refine AO.yld _ (Yld.makeFunc rfl) rfl rfl rfl ?_
  refine AO.yld _ (Yld.call rfl rfl Try.call147 rfl rfl rfl (indexFuncSetting_c (p := nameIs n) (by omega) Try.call148 (fun x hx => settingIndex1_c)) rfl) rfl rfl rfl ?_
  refine AO.yld _ (Yld.assign rfl) rfl rfl rfl ?_
  refine AO.nil ?_
  refine Pure.ret Try.results106 (RVs.cons (RV.tmp rfl) RVs.nil) rfl ?_
  rfl

theorem eqsSetting {x y : NV} {X Y : Operand} (w : World) : (do eqGuard .eql 145 X Y (.agg [str x.name, .int .i64 x.val].toArray) (.agg [str y.name, .int .i64 y.val].toArray); binOp .eql 145 (.agg [str x.name, .int .i64 x.val].toArray) (.agg [str y.name, .int .i64 y.val].toArray) : Sem Value).run Try.prog w = .ok (.bool (decide (x = y))) w := by
  have g1 : Try.prog.eqGuardType Try.prog.depth 145 = false := by kernel_rfl
  have g2 : Try.prog.stoodInHeld 145 = false := by kernel_rfl
  have g3 : Try.prog.underlying 145 = some (.struct (Try.prog.fieldsOf 145)) := by kernel_rfl
  have g4 : (Try.prog.fieldsOf 145).toList = [⟨ "Name", 9, 0, false, "", "", 0⟩, ⟨ "Value", 2, 1, false, "", "", 16⟩] := by kernel_rfl
  rw [Sem.run_bind, run_eqGuard_agg _ _ _ _ _ _ _ g1, Result.andThen_ok, run_eql_struct, run_equalIn_struct _ _ _ _ _ g3 g2, g4]
  have e : decide (x = y) = (decide (x.name = y.name) && decide (x.val = y.val)) := by cases x; cases y; simp
  rw [e]
  clear g1 g2 g3 g4 e
  simp [Op.eqFields, go_sem, part, str, Try.sizeOf2, Try.isAgg2, Try.sizeOf9, Try.isAgg9, run_equalIn_int (h := Try.underlying2), run_equalIn_string (h := Try.underlying9)]
  by_cases h0 : x.name = y.name <;> by_cases h1 : x.val = y.val <;> simp_all

theorem indexSetting_c {xs : List NV} {y : NV} (hn : xs.length ≤ 1048576) :
    Pure Try.prog 149 [.sl 2 (xs.map encNV), .agg (encNV y)] (.v (.int .i64 (idxOf (fun x => decide (y = x)) xs))) := by
  refine Pure.intro Try.func149 rfl Try.ntmps149 rfl rfl (fun w => ?_)
  refine AC.seq ?_
  refine AC.region ?_
  refine AO.box 0 rfl rfl rfl rfl rfl ?_
  refine AO.yld _ (Yld.assign rfl) rfl rfl rfl ?_
  refine AO.nil ?_
  refine AC.seq ?_
  refine AC.seq ?_
  refine AC.region ?_
  refine AO.yld _ (Yld.move rfl) rfl rfl rfl ?_
  refine AO.yld _ (Yld.len Try.underlying67 rfl rfl) rfl rfl rfl ?_
  refine AO.yld _ (Yld.move rfl) rfl rfl rfl ?_
  refine AO.nil ?_
  refine AC.block ?_
  refine AC.loopC [(0, _), (3, _), (7, _)] [(0, _)] (fun (k : Nat) => [(8, .p (.v (.int .i64 (k : Int))))]) (fun (k : Nat) => []) (fun (k : Nat) => k ≤ xs.length ∧ anyTo (fun x => decide (y = x)) xs k = false) (fun (k : Nat) => xs.length - k) 0 ⟨rfl, rfl, rfl, trivial⟩ ⟨rfl, trivial⟩ ⟨rfl, trivial⟩ trivial ?_ (fun k hJ => ?_)
  · exact ⟨Nat.zero_le _, rfl⟩
  · -- round
    refine AC.seq ?_
    refine AC.region ?_
    refine AO.yld _ (Yld.int rfl rfl rfl) rfl rfl rfl ?_
    refine AO.nil ?_
    refine AC.seq ?_
    refine AC.cond _ rfl (fun c9 => ?_) (fun c9 => ?_)
    · -- c9 True
      have hk := lt_of_decM c9
      obtain ⟨x, hx⟩ := get_some hk
      have hrow := map_row (enc := encNV) hx
      refine AC.skip ?_
      refine AC.seq ?_
      refine AC.block ?_
      refine AC.seq ?_
      refine AC.region ?_
      refine AO.yld _ (Yld.move rfl) rfl rfl rfl ?_
      refine AO.yld _ (Yld.assign rfl) rfl rfl rfl ?_
      refine AO.nil ?_
      refine AC.seq ?_
      refine AC.draw (by kernel_rfl) (by kernel_rfl) ?_
      refine AO.yld _ (Yld.loadAgg Try.isAgg145 Try.sizeOf145 rfl rfl rfl rfl) rfl rfl rfl ?_
      refine AO.yld _ (Yld.move rfl) rfl rfl rfl ?_
      refine AO.yld _ (Yld.move rfl) rfl rfl rfl ?_
      refine AO.yld _ (Yld.indexSl Try.underlying67 Try.sizeOf145 rfl rfl hrow rfl) rfl rfl rfl ?_
      refine AO.yld _ (Yld.loadAgg Try.isAgg145 Try.sizeOf145 rfl rfl rfl rfl) rfl rfl rfl ?_
      refine AO.yld _ (Yld.binV rfl rfl rfl rfl rfl rfl (by exact eqsSetting)) rfl rfl rfl ?_
      refine AO.nil ?_
      refine AC.cond _ rfl (fun c16 => ?_) (fun c16 => ?_)
      · -- c16 True
        refine AC.seq ?_
        refine AC.region ?_
        refine AO.yld _ (Yld.move rfl) rfl rfl rfl ?_
        refine AO.yld _ (Yld.assign rfl) rfl rfl rfl ?_
        refine AO.nil ?_
        refine Pure.ret Try.results149 (RVs.cons (RV.tmp rfl) RVs.nil) rfl ?_
        first
          | exact ci (idx_hit hJ.2 hx (by simpa using c16))
          | exact ci (idx_miss hJ.2)
          | exact ci (idx_hit hJ.2 hx (by simpa using c16)).symm
          | exact ci (idx_miss hJ.2).symm
      · -- c16 False
        refine AC.skip ?_
        refine AC.mark ?_
        refine AC.region ?_
        refine AO.yld _ (Yld.add rfl rfl (by omega) (by omega)) rfl rfl rfl ?_
        refine AO.yld _ (Yld.move rfl) rfl rfl rfl ?_
        refine AO.nil ?_
        refine AC.back ⟨k + 1, ?_, ?_, ⟨?_, trivial⟩, trivial, ⟨rfl, rfl, rfl, trivial⟩, ⟨rfl, trivial⟩⟩
        · exact ⟨hk, by rw [anyTo_succ hx, hJ.2]; simpa using c16⟩
        · omega
        · rfl
    · -- c9 False
      obtain rfl : k = xs.length := by have := ge_of_decM c9; omega
      refine AC.exit rfl ?_
      refine AC.seq ?_
      refine AC.region ?_
      refine AO.yld _ (Yld.assign rfl) rfl rfl rfl ?_
      refine AO.nil ?_
      refine Pure.ret Try.results149 (RVs.cons (RV.tmp rfl) RVs.nil) rfl ?_
      first
        | exact ci (idx_hit hJ.2 hx (by simpa using c16))
        | exact ci (idx_miss hJ.2)
        | exact ci (idx_hit hJ.2 hx (by simpa using c16)).symm
        | exact ci (idx_miss hJ.2).symm

theorem containsSetting_c {xs : List NV} {y : NV} (hn : xs.length ≤ 1048576) :
    Pure Try.prog 107 [.sl 2 (xs.map encNV), .agg (encNV y)] (.v (.bool (decide (y ∈ xs)))) := by
  refine Pure.intro Try.func107 rfl Try.ntmps107 rfl rfl (fun w => ?_)
  refine AC.seq ?_
  refine AC.region ?_
  refine AO.box 0 rfl rfl rfl rfl rfl ?_
  refine AO.yld _ (Yld.assign rfl) rfl rfl rfl ?_
  refine AO.nil ?_
  refine AC.seq ?_
  refine AC.region ?_
  refine AO.yld _ (Yld.move rfl) rfl rfl rfl ?_
  refine AO.yld _ (Yld.loadAgg Try.isAgg145 Try.sizeOf145 rfl rfl rfl rfl) rfl rfl rfl ?_
  refine AO.yld _ (Yld.call rfl rfl Try.call149 rfl rfl rfl (indexSetting_c (by first | assumption | omega)) rfl) rfl rfl rfl ?_
  refine AO.yld _ (Yld.int rfl rfl rfl) rfl rfl rfl ?_
  refine AO.yld _ (Yld.assign rfl) rfl rfl rfl ?_
  refine AO.nil ?_
  refine Pure.ret Try.results107 (RVs.cons (RV.tmp rfl) RVs.nil) rfl ?_
  refine cb ?_; rw [idx_any]; simp [List.any_eq, eq_comm]

theorem spec_DiffStates_c {a b : List NV} (hna : a.length ≤ 1048576) (hsa : ∀ x ∈ a, x.name.length ≤ 1048576) (hnb : b.length ≤ 1048576) (hsb : ∀ x ∈ b, x.name.length ≤ 1048576) :
    FnE (α := Unit) Try.prog 43 [.p (.sl 2 (a.map encNV)), .p (.sl 2 (b.map encNV))] [] [] (fun _ => True) (fun _ => .tup [.h 0, .p (.v (.int .i64 (diffStates a b).2))]) (fun _ => [(0, .vec 147 3 ((diffStates a b).1.map encChg))]) := by
  refine FnE.intro Try.func43 rfl Try.ntmps43 rfl rfl (fun w0 F0 η φ w => ?_)
  refine AC.seq ?_
  refine AC.region ?_
  refine AO.yld _ (Yld.assign rfl) rfl rfl rfl ?_
  refine AO.yld _ (Yld.assign rfl) rfl rfl rfl ?_
  refine AO.nil ?_
  refine AC.seq ?_
  refine AC.seq ?_
  refine AC.region ?_
  refine AO.yld _ (Yld.move rfl) rfl rfl rfl ?_
  refine AO.yld _ (Yld.call rfl rfl Try.call103 rfl rfl rfl (spec_l27State_c (by first | assumption | omega) (by assumption)) rfl) rfl rfl rfl ?_
  refine AO.yld _ (Yld.not rfl) rfl rfl rfl ?_
  refine AO.yld _ (Yld.move rfl) rfl rfl rfl ?_
  refine AO.splitAt 13 _ rfl (fun s13 => ?_) (fun s13 => ?_)
  · -- s13 True
    refine AO.skipF rfl rfl rfl rfl rfl ?_
    refine AO.skipF rfl rfl rfl rfl rfl ?_
    refine AO.skipF rfl rfl rfl rfl rfl ?_
    refine AO.yld _ (Yld.pickT rfl rfl) rfl rfl rfl ?_
    refine AO.nil ?_
    refine AC.condT rfl ?_
    refine AC.seq ?_
    refine AC.region ?_
    refine AO.yld _ (Yld.assign rfl) rfl rfl rfl ?_
    refine AO.yld _ (Yld.assign rfl) rfl rfl rfl ?_
    refine AO.nil ?_
    refine AC.nilVec 4 0 147 3 rfl rfl ?_
    refine FnE.ret () [0] [0] Try.results43 (RVs.cons (RV.tmp rfl) (RVs.cons (RV.tmp rfl) RVs.nil)) rfl rfl rfl ?_ ?_ ⟨⟨_, rfl, ?_⟩, trivial⟩
    · -- holds
      trivial
    · -- value
      refine tupE ?_; first | (simp_all [diffStates]; done) | grind [diffStates]
    · -- thing 0
      refine vecE ?_; first | (simp_all [diffStates]; done) | grind [diffStates]
  · -- s13 False
    refine AO.yldG _ (Yld.move rfl) rfl rfl rfl rfl rfl ?_
    refine AO.yldG _ (Yld.call rfl rfl Try.call103 rfl rfl rfl (spec_l27State_c (by first | assumption | omega) (by assumption)) rfl) rfl rfl rfl rfl rfl ?_
    refine AO.yldG _ (Yld.not rfl) rfl rfl rfl rfl rfl ?_
    refine AO.yld _ (Yld.pickF rfl rfl) rfl rfl rfl ?_
    refine AO.nil ?_
    refine AC.cond _ rfl (fun c17 => ?_) (fun c17 => ?_)
    · -- c17 True
      refine AC.seq ?_
      refine AC.region ?_
      refine AO.yld _ (Yld.assign rfl) rfl rfl rfl ?_
      refine AO.yld _ (Yld.assign rfl) rfl rfl rfl ?_
      refine AO.nil ?_
      refine AC.nilVec 4 0 147 3 rfl rfl ?_
      refine FnE.ret () [0] [0] Try.results43 (RVs.cons (RV.tmp rfl) (RVs.cons (RV.tmp rfl) RVs.nil)) rfl rfl rfl ?_ ?_ ⟨⟨_, rfl, ?_⟩, trivial⟩
      · -- holds
        trivial
      · -- value
        refine tupE ?_; first | (simp_all [diffStates]; done) | grind [diffStates]
      · -- thing 0
        refine vecE ?_; first | (simp_all [diffStates]; done) | grind [diffStates]
    · -- c17 False
      have hoab : okState a = true ∧ okState b = true := by grind
      obtain ⟨hoa, hob⟩ := hoab
      refine AC.skip ?_
      refine AC.seq ?_
      refine AC.region ?_
      refine AO.buildSlice (rows := []) 0 Try.underlying64 ty147 rfl rfl rfl rfl rfl rfl rfl rfl rfl ?_
      refine AO.yld _ (Yld.assign rfl) rfl rfl rfl ?_
      refine AO.nil ?_
      refine AC.seq ?_
      refine AC.seq ?_
      refine AC.region ?_
      refine AO.yld _ (Yld.assign rfl) rfl rfl rfl ?_
      refine AO.nil ?_
      refine AC.block ?_
      refine AC.loopC [(0, _), (1, _), (4, _), (5, _)] [(900, _)] (fun (k : Nat) => [(7, .p (.v (.int .i64 (k : Int)))), (6, .h 0)]) (fun (k : Nat) => [(0, .vec 147 3 ((drops a b k).map encChg))]) (fun (k : Nat) => k ≤ a.length) (fun (k : Nat) => a.length - k) 0 ⟨rfl, rfl, rfl, rfl, trivial⟩ ⟨rfl, trivial⟩ ⟨rfl, rfl, trivial⟩ ⟨rfl, trivial⟩ ?_ (fun k hJ => ?_)
      · exact Nat.zero_le _
      · -- round
        refine AC.seq ?_
        refine AC.seq ?_
        refine AC.region ?_
        refine AO.yld _ (Yld.move rfl) rfl rfl rfl ?_
        refine AO.yld _ (Yld.move rfl) rfl rfl rfl ?_
        refine AO.yld _ (Yld.len Try.underlying67 rfl rfl) rfl rfl rfl ?_
        refine AO.yld _ (Yld.int rfl rfl rfl) rfl rfl rfl ?_
        refine AO.nil ?_
        refine AC.cond _ rfl (fun c22 => ?_) (fun c22 => ?_)
        · -- c22 True
          have hk := lt_of_decM c22
          obtain ⟨x, hx⟩ := get_some hk
          have hrow := map_row (enc := encNV) hx
          have hdl := drops_len (a := a) (b := b) k
          refine AC.skip ?_
          refine AC.seq ?_
          refine AC.block ?_
          refine AC.seq ?_
          refine AC.region ?_
          refine AO.yld _ (Yld.move rfl) rfl rfl rfl ?_
          refine AO.yld _ (Yld.move rfl) rfl rfl rfl ?_
          refine AO.yld _ (Yld.move rfl) rfl rfl rfl ?_
          refine AO.yld _ (Yld.indexSl Try.underlying67 Try.sizeOf145 rfl rfl hrow rfl) rfl rfl rfl ?_
          refine AO.yld _ (Yld.fieldAddr Try.underlying145 rfl rfl Try.sizeOf9 rfl rfl rfl) rfl rfl rfl ?_
          refine AO.yld _ (Yld.load Try.isAgg9 rfl rfl) rfl rfl rfl ?_
          refine AO.yld _ (Yld.call rfl rfl Try.call104 rfl rfl rfl (spec_l27At_c (by first | assumption | omega)) rfl) rfl rfl rfl ?_
          refine AO.yld _ (Yld.int rfl rfl rfl) rfl rfl rfl ?_
          refine AO.nil ?_
          refine AC.cond _ rfl (fun c32 => ?_) (fun c32 => ?_)
          · -- c32 True
            refine AC.region ?_
            refine AO.yld _ (Yld.move rfl) rfl rfl rfl ?_
            refine AO.yld _ (Yld.move rfl) rfl rfl rfl ?_
            refine AO.yld _ (Yld.move rfl) rfl rfl rfl ?_
            refine AO.yld _ (Yld.indexSl Try.underlying67 Try.sizeOf145 rfl rfl hrow rfl) rfl rfl rfl ?_
            refine AO.yld _ (Yld.loadAgg Try.isAgg145 Try.sizeOf145 rfl rfl rfl rfl) rfl rfl rfl ?_
            refine AO.yld _ (Yld.buildA (zs := [.v (.int .i64 0), .v (str []), .v (.int .i64 0)]) bld147 rfl rfl) rfl rfl rfl ?_
            refine AO.buildSlice (rows := [[_, _, _]]) 1 Try.underlying64 ty147 rfl rfl rfl rfl rfl rfl rfl rfl rfl ?_
            refine AO.append 0 Try.underlying64 ty147 rfl rfl rfl rfl rfl rfl rfl (by simp [pvOne, str]) (by simp only [List.length_map, List.length_cons, List.length_nil, List.length_append]; omega) (by simp only [List.length_map, List.length_cons, List.length_nil, List.length_append]; omega) rfl ?_
            refine AO.yld _ (Yld.assign rfl) rfl rfl rfl ?_
            refine AO.nil ?_
            refine AC.mark ?_
            refine AC.region ?_
            refine AO.yld _ (Yld.move rfl) rfl rfl rfl ?_
            refine AO.yld _ (Yld.add rfl rfl (by omega) (by omega)) rfl rfl rfl ?_
            refine AO.yld _ (Yld.assign rfl) rfl rfl rfl ?_
            refine AO.nil ?_
            refine AC.back ⟨k + 1, ?_, ?_, ⟨?_, ?_, trivial⟩, ⟨?_, trivial⟩, ⟨rfl, rfl, rfl, rfl, trivial⟩, ⟨rfl, trivial⟩⟩
            · exact hk
            · omega
            · rfl
            · rfl
            · first | (rw [drops_T hx (by simpa using c32)]; rw [map_snoc]; rfl) | (rw [drops_F hx (by simpa using c32)]; rfl)
          · -- c32 False
            refine AC.skip ?_
            refine AC.mark ?_
            refine AC.region ?_
            refine AO.yld _ (Yld.move rfl) rfl rfl rfl ?_
            refine AO.yld _ (Yld.add rfl rfl (by omega) (by omega)) rfl rfl rfl ?_
            refine AO.yld _ (Yld.assign rfl) rfl rfl rfl ?_
            refine AO.nil ?_
            refine AC.back ⟨k + 1, ?_, ?_, ⟨?_, ?_, trivial⟩, ⟨?_, trivial⟩, ⟨rfl, rfl, rfl, rfl, trivial⟩, ⟨rfl, trivial⟩⟩
            · exact hk
            · omega
            · rfl
            · rfl
            · first | (rw [drops_T hx (by simpa using c32)]; rw [map_snoc]; rfl) | (rw [drops_F hx (by simpa using c32)]; rfl)
        · -- c22 False
          obtain rfl : k = a.length := by have := ge_of_decM c22; omega
          refine AC.exit rfl ?_
          refine AC.seq ?_
          refine AC.seq ?_
          refine AC.region ?_
          refine AO.yld _ (Yld.assign rfl) rfl rfl rfl ?_
          refine AO.nil ?_
          refine AC.block ?_
          refine AC.loopC [(0, _), (1, _), (4, _), (5, _)] [(900, _)] (fun (k : Nat) => [(8, .p (.v (.int .i64 (k : Int)))), (6, .h 0)]) (fun (k : Nat) => [(0, .vec 147 3 ((drops a b a.length ++ sets a b k).map encChg))]) (fun (k : Nat) => k ≤ b.length) (fun (k : Nat) => b.length - k) 0 ⟨rfl, rfl, rfl, rfl, trivial⟩ ⟨rfl, trivial⟩ ⟨rfl, rfl, trivial⟩ ⟨by show some _ = some (Res.vec _ _ ((drops a b a.length ++ []).map encChg)); rw [List.append_nil]; try rfl, trivial⟩ ?_ (fun k hJ => ?_)
          · exact Nat.zero_le _
          · -- round
            refine AC.seq ?_
            refine AC.seq ?_
            refine AC.region ?_
            refine AO.yld _ (Yld.move rfl) rfl rfl rfl ?_
            refine AO.yld _ (Yld.move rfl) rfl rfl rfl ?_
            refine AO.yld _ (Yld.len Try.underlying67 rfl rfl) rfl rfl rfl ?_
            refine AO.yld _ (Yld.int rfl rfl rfl) rfl rfl rfl ?_
            refine AO.nil ?_
            refine AC.cond _ rfl (fun c44 => ?_) (fun c44 => ?_)
            · -- c44 True
              have hk := lt_of_decM c44
              obtain ⟨x, hx⟩ := get_some hk
              have hrow := map_row (enc := encNV) hx
              have hdl := drops_len (a := a) (b := b) a.length
              have hdk := sets_len (a := a) (b := b) k
              refine AC.skip ?_
              refine AC.seq ?_
              refine AC.block ?_
              refine AC.seq ?_
              refine AC.region ?_
              refine AO.yld _ (Yld.move rfl) rfl rfl rfl ?_
              refine AO.yld _ (Yld.move rfl) rfl rfl rfl ?_
              refine AO.yld _ (Yld.move rfl) rfl rfl rfl ?_
              refine AO.yld _ (Yld.indexSl Try.underlying67 Try.sizeOf145 rfl rfl hrow rfl) rfl rfl rfl ?_
              refine AO.yld _ (Yld.fieldAddr Try.underlying145 rfl rfl Try.sizeOf9 rfl rfl rfl) rfl rfl rfl ?_
              refine AO.yld _ (Yld.load Try.isAgg9 rfl rfl) rfl rfl rfl ?_
              refine AO.yld _ (Yld.call rfl rfl Try.call104 rfl rfl rfl (spec_l27At_c (by first | assumption | omega)) rfl) rfl rfl rfl ?_
              refine AO.yld _ (Yld.assign rfl) rfl rfl rfl ?_
              refine AO.nil ?_
              refine AC.seq ?_
              refine AC.draw (by kernel_rfl) (by kernel_rfl) ?_
              refine AO.yld _ (Yld.move rfl) rfl rfl rfl ?_
              refine AO.yld _ (Yld.int rfl rfl rfl) rfl rfl rfl ?_
              refine AO.yld _ (Yld.move rfl) rfl rfl rfl ?_
              refine AO.splitAt 56 _ rfl (fun s56 => ?_) (fun s56 => ?_)
              · -- s56 True
                refine AO.skipF rfl rfl rfl rfl rfl ?_
                refine AO.skipF rfl rfl rfl rfl rfl ?_
                refine AO.skipF rfl rfl rfl rfl rfl ?_
                refine AO.skipF rfl rfl rfl rfl rfl ?_
                refine AO.skipF rfl rfl rfl rfl rfl ?_
                refine AO.skipF rfl rfl rfl rfl rfl ?_
                refine AO.skipF rfl rfl rfl rfl rfl ?_
                refine AO.skipF rfl rfl rfl rfl rfl ?_
                refine AO.skipF rfl rfl rfl rfl rfl ?_
                refine AO.yld _ (Yld.pickT rfl rfl) rfl rfl rfl ?_
                refine AO.nil ?_
                refine AC.condT rfl ?_
                refine AC.region ?_
                refine AO.yld _ (Yld.move rfl) rfl rfl rfl ?_
                refine AO.yld _ (Yld.move rfl) rfl rfl rfl ?_
                refine AO.yld _ (Yld.move rfl) rfl rfl rfl ?_
                refine AO.yld _ (Yld.indexSl Try.underlying67 Try.sizeOf145 rfl rfl hrow rfl) rfl rfl rfl ?_
                refine AO.yld _ (Yld.loadAgg Try.isAgg145 Try.sizeOf145 rfl rfl rfl rfl) rfl rfl rfl ?_
                refine AO.yld _ (Yld.buildA (zs := [.v (.int .i64 0), .v (str []), .v (.int .i64 0)]) bld147 rfl rfl) rfl rfl rfl ?_
                refine AO.buildSlice (rows := [[_, _, _]]) 1 Try.underlying64 ty147 rfl rfl rfl rfl rfl rfl rfl rfl rfl ?_
                refine AO.append 0 Try.underlying64 ty147 rfl rfl rfl rfl rfl rfl rfl (by simp [pvOne, str]) (by simp only [List.length_map, List.length_cons, List.length_nil, List.length_append]; omega) (by simp only [List.length_map, List.length_cons, List.length_nil, List.length_append]; omega) rfl ?_
                refine AO.yld _ (Yld.assign rfl) rfl rfl rfl ?_
                refine AO.nil ?_
                refine AC.mark ?_
                refine AC.region ?_
                refine AO.yld _ (Yld.move rfl) rfl rfl rfl ?_
                refine AO.yld _ (Yld.add rfl rfl (by omega) (by omega)) rfl rfl rfl ?_
                refine AO.yld _ (Yld.assign rfl) rfl rfl rfl ?_
                refine AO.nil ?_
                refine AC.back ⟨k + 1, ?_, ?_, ⟨?_, ?_, trivial⟩, ⟨?_, trivial⟩, ⟨rfl, rfl, rfl, rfl, trivial⟩, ⟨rfl, trivial⟩⟩
                · exact hk
                · omega
                · rfl
                · rfl
                · first | (rw [sets_T hx (by first | exact mem_none (by simpa using s56) | (rw [mem_at hoa hyj hnj]; simpa using c66))]; rw [← List.append_assoc, map_snoc]; rfl) | (rw [sets_F hx (by rw [mem_at hoa hyj hnj]; simpa using c66)]; rfl)
              · -- s56 False
                obtain ⟨j, y, hj, hyj, hnj⟩ := idx_found (by simpa using s56)
                have hrowj := map_row (enc := encNV) hyj
                refine AO.yldG _ (Yld.move rfl) rfl rfl rfl rfl rfl ?_
                refine AO.yldG _ (Yld.move rfl) rfl rfl rfl rfl rfl ?_
                refine AO.yldG _ (Yld.indexSl Try.underlying67 Try.sizeOf145 rfl rfl hrowj hj) rfl rfl rfl rfl rfl ?_
                refine AO.yldG _ (Yld.loadAgg Try.isAgg145 Try.sizeOf145 rfl rfl rfl rfl) rfl rfl rfl rfl rfl ?_
                refine AO.yldG _ (Yld.move rfl) rfl rfl rfl rfl rfl ?_
                refine AO.yldG _ (Yld.move rfl) rfl rfl rfl rfl rfl ?_
                refine AO.yldG _ (Yld.indexSl Try.underlying67 Try.sizeOf145 rfl rfl hrow rfl) rfl rfl rfl rfl rfl ?_
                refine AO.yldG _ (Yld.loadAgg Try.isAgg145 Try.sizeOf145 rfl rfl rfl rfl) rfl rfl rfl rfl rfl ?_
                refine AO.yldG _ (Yld.binV rfl rfl rfl rfl rfl rfl (by exact neSetting)) rfl rfl rfl rfl rfl ?_
                refine AO.yld _ (Yld.pickF rfl rfl) rfl rfl rfl ?_
                refine AO.nil ?_
                refine AC.cond _ rfl (fun c66 => ?_) (fun c66 => ?_)
                · -- c66 True
                  refine AC.region ?_
                  refine AO.yld _ (Yld.move rfl) rfl rfl rfl ?_
                  refine AO.yld _ (Yld.move rfl) rfl rfl rfl ?_
                  refine AO.yld _ (Yld.move rfl) rfl rfl rfl ?_
                  refine AO.yld _ (Yld.indexSl Try.underlying67 Try.sizeOf145 rfl rfl hrow rfl) rfl rfl rfl ?_
                  refine AO.yld _ (Yld.loadAgg Try.isAgg145 Try.sizeOf145 rfl rfl rfl rfl) rfl rfl rfl ?_
                  refine AO.yld _ (Yld.buildA (zs := [.v (.int .i64 0), .v (str []), .v (.int .i64 0)]) bld147 rfl rfl) rfl rfl rfl ?_
                  refine AO.buildSlice (rows := [[_, _, _]]) 1 Try.underlying64 ty147 rfl rfl rfl rfl rfl rfl rfl rfl rfl ?_
                  refine AO.append 0 Try.underlying64 ty147 rfl rfl rfl rfl rfl rfl rfl (by simp [pvOne, str]) (by simp only [List.length_map, List.length_cons, List.length_nil, List.length_append]; omega) (by simp only [List.length_map, List.length_cons, List.length_nil, List.length_append]; omega) rfl ?_
                  refine AO.yld _ (Yld.assign rfl) rfl rfl rfl ?_
                  refine AO.nil ?_
                  refine AC.mark ?_
                  refine AC.region ?_
                  refine AO.yld _ (Yld.move rfl) rfl rfl rfl ?_
                  refine AO.yld _ (Yld.add rfl rfl (by omega) (by omega)) rfl rfl rfl ?_
                  refine AO.yld _ (Yld.assign rfl) rfl rfl rfl ?_
                  refine AO.nil ?_
                  refine AC.back ⟨k + 1, ?_, ?_, ⟨?_, ?_, trivial⟩, ⟨?_, trivial⟩, ⟨rfl, rfl, rfl, rfl, trivial⟩, ⟨rfl, trivial⟩⟩
                  · exact hk
                  · omega
                  · rfl
                  · rfl
                  · first | (rw [sets_T hx (by first | exact mem_none (by simpa using s56) | (rw [mem_at hoa hyj hnj]; simpa using c66))]; rw [← List.append_assoc, map_snoc]; rfl) | (rw [sets_F hx (by rw [mem_at hoa hyj hnj]; simpa using c66)]; rfl)
                · -- c66 False
                  refine AC.skip ?_
                  refine AC.mark ?_
                  refine AC.region ?_
                  refine AO.yld _ (Yld.move rfl) rfl rfl rfl ?_
                  refine AO.yld _ (Yld.add rfl rfl (by omega) (by omega)) rfl rfl rfl ?_
                  refine AO.yld _ (Yld.assign rfl) rfl rfl rfl ?_
                  refine AO.nil ?_
                  refine AC.back ⟨k + 1, ?_, ?_, ⟨?_, ?_, trivial⟩, ⟨?_, trivial⟩, ⟨rfl, rfl, rfl, rfl, trivial⟩, ⟨rfl, trivial⟩⟩
                  · exact hk
                  · omega
                  · rfl
                  · rfl
                  · first | (rw [sets_T hx (by first | exact mem_none (by simpa using s56) | (rw [mem_at hoa hyj hnj]; simpa using c66))]; rw [← List.append_assoc, map_snoc]; rfl) | (rw [sets_F hx (by rw [mem_at hoa hyj hnj]; simpa using c66)]; rfl)
            · -- c44 False
              obtain rfl : k = b.length := by have := ge_of_decM c44; omega
              refine AC.exit rfl ?_
              refine AC.seq ?_
              refine AC.region ?_
              refine AO.yld _ (Yld.move rfl) rfl rfl rfl ?_
              refine AO.yld _ (Yld.assign rfl) rfl rfl rfl ?_
              refine AO.yld _ (Yld.assign rfl) rfl rfl rfl ?_
              refine AO.nil ?_
              refine FnE.ret () [0] [0] Try.results43 (RVs.cons (RV.tmp rfl) (RVs.cons (RV.tmp rfl) RVs.nil)) rfl rfl rfl ?_ ?_ ⟨⟨_, rfl, ?_⟩, trivial⟩
              · -- holds
                trivial
              · -- value
                refine tupE ?_; first | (simp_all [diffStates]; done) | grind [diffStates]
              · -- thing 0
                refine vecE ?_; first | (simp_all [diffStates]; done) | grind [diffStates]

theorem impl_DiffStates_c {a b : List NV} (hna : a.length ≤ 1048576) (hsa : ∀ x ∈ a, x.name.length ≤ 1048576) (hnb : b.length ≤ 1048576) (hsb : ∀ x ∈ b, x.name.length ≤ 1048576) :
    FnE (α := Unit) Try.prog 45 [.p (.sl 2 (a.map encNV)), .p (.sl 2 (b.map encNV))] [] [] (fun _ => True) (fun _ => .tup [.h 0, .p (.v (.int .i64 (diffStates a b).2))]) (fun _ => [(0, .vec 147 3 ((diffStates a b).1.map encChg))]) := by
  refine FnE.intro Try.func45 rfl Try.ntmps45 rfl rfl (fun w0 F0 η φ w => ?_)
  refine AC.seq ?_
  refine AC.region ?_
  refine AO.yld _ (Yld.assign rfl) rfl rfl rfl ?_
  refine AO.yld _ (Yld.assign rfl) rfl rfl rfl ?_
  refine AO.nil ?_
  refine AC.seq ?_
  refine AC.seq ?_
  refine AC.region ?_
  refine AO.yld _ (Yld.move rfl) rfl rfl rfl ?_
  refine AO.yld _ (Yld.call rfl rfl Try.call72 rfl rfl rfl (impl_ValidState_c (by first | assumption | omega) (by assumption)) rfl) rfl rfl rfl ?_
  refine AO.yld _ (Yld.not rfl) rfl rfl rfl ?_
  refine AO.yld _ (Yld.move rfl) rfl rfl rfl ?_
  refine AO.splitAt 14 _ rfl (fun s14 => ?_) (fun s14 => ?_)
  · -- s14 True
    refine AO.skipF rfl rfl rfl rfl rfl ?_
    refine AO.skipF rfl rfl rfl rfl rfl ?_
    refine AO.skipF rfl rfl rfl rfl rfl ?_
    refine AO.yld _ (Yld.pickT rfl rfl) rfl rfl rfl ?_
    refine AO.nil ?_
    refine AC.condT rfl ?_
    refine AC.seq ?_
    refine AC.region ?_
    refine AO.yld _ (Yld.assign rfl) rfl rfl rfl ?_
    refine AO.yld _ (Yld.assign rfl) rfl rfl rfl ?_
    refine AO.nil ?_
    refine AC.nilVec 4 0 147 3 rfl rfl ?_
    refine FnE.ret () [0] [0] Try.results45 (RVs.cons (RV.tmp rfl) (RVs.cons (RV.tmp rfl) RVs.nil)) rfl rfl rfl ?_ ?_ ⟨⟨_, rfl, ?_⟩, trivial⟩
    · -- holds
      trivial
    · -- value
      refine tupE ?_; first | (simp_all [diffStates]; done) | grind [diffStates]
    · -- thing 0
      refine vecE ?_; first | (simp_all [diffStates]; done) | grind [diffStates]
  · -- s14 False
    refine AO.yldG _ (Yld.move rfl) rfl rfl rfl rfl rfl ?_
    refine AO.yldG _ (Yld.call rfl rfl Try.call72 rfl rfl rfl (impl_ValidState_c (by first | assumption | omega) (by assumption)) rfl) rfl rfl rfl rfl rfl ?_
    refine AO.yldG _ (Yld.not rfl) rfl rfl rfl rfl rfl ?_
    refine AO.yld _ (Yld.pickF rfl rfl) rfl rfl rfl ?_
    refine AO.nil ?_
    refine AC.cond _ rfl (fun c18 => ?_) (fun c18 => ?_)
    · -- c18 True
      refine AC.seq ?_
      refine AC.region ?_
      refine AO.yld _ (Yld.assign rfl) rfl rfl rfl ?_
      refine AO.yld _ (Yld.assign rfl) rfl rfl rfl ?_
      refine AO.nil ?_
      refine AC.nilVec 4 0 147 3 rfl rfl ?_
      refine FnE.ret () [0] [0] Try.results45 (RVs.cons (RV.tmp rfl) (RVs.cons (RV.tmp rfl) RVs.nil)) rfl rfl rfl ?_ ?_ ⟨⟨_, rfl, ?_⟩, trivial⟩
      · -- holds
        trivial
      · -- value
        refine tupE ?_; first | (simp_all [diffStates]; done) | grind [diffStates]
      · -- thing 0
        refine vecE ?_; first | (simp_all [diffStates]; done) | grind [diffStates]
    · -- c18 False
      have hoab : okState a = true ∧ okState b = true := by grind
      obtain ⟨hoa, hob⟩ := hoab
      refine AC.skip ?_
      refine AC.seq ?_
      refine AC.region ?_
      refine AO.yld _ (Yld.assign rfl) rfl rfl rfl ?_
      refine AO.nil ?_
      refine AC.seq ?_
      refine AC.seq ?_
      refine AC.region ?_
      refine AO.yld _ (Yld.move rfl) rfl rfl rfl ?_
      refine AO.yld _ (Yld.len Try.underlying67 rfl rfl) rfl rfl rfl ?_
      refine AO.yld _ (Yld.move rfl) rfl rfl rfl ?_
      refine AO.nil ?_
      refine AC.block ?_
      refine AC.nilVec 6 0 147 3 rfl rfl ?_
      refine AC.loopC [(0, _), (1, _), (4, _), (5, _), (19, _), (20, _)] [(900, _)] (fun (k : Nat) => [(21, .p (.v (.int .i64 (k : Int)))), (6, .h 0)]) (fun (k : Nat) => [(0, .vec 147 3 ((drops a b k).map encChg))]) (fun (k : Nat) => k ≤ a.length) (fun (k : Nat) => a.length - k) 0 ⟨rfl, rfl, rfl, rfl, rfl, rfl, trivial⟩ ⟨rfl, trivial⟩ ⟨rfl, rfl, trivial⟩ ⟨rfl, trivial⟩ ?_ (fun k hJ => ?_)
      · exact Nat.zero_le _
      · -- round
        refine AC.seq ?_
        refine AC.region ?_
        refine AO.yld _ (Yld.int rfl rfl rfl) rfl rfl rfl ?_
        refine AO.nil ?_
        refine AC.seq ?_
        refine AC.cond _ rfl (fun c22 => ?_) (fun c22 => ?_)
        · -- c22 True
          have hk := lt_of_decM c22
          obtain ⟨x, hx⟩ := get_some hk
          have hrow := map_row (enc := encNV) hx
          have hdl := drops_len (a := a) (b := b) k
          refine AC.skip ?_
          refine AC.seq ?_
          refine AC.block ?_
          refine AC.seq ?_
          refine AC.region ?_
          refine AO.yld _ (Yld.indexSl Try.underlying67 Try.sizeOf145 rfl rfl hrow rfl) rfl rfl rfl ?_
          refine AO.yld _ (Yld.loadAgg Try.isAgg145 Try.sizeOf145 rfl rfl rfl rfl) rfl rfl rfl ?_
          refine AO.alloc 1 Try.zeroValue145 rfl rfl rfl ?_
          refine AO.store Try.sizeOf145 rfl rfl rfl rfl rfl rfl ?_
          refine AO.nil ?_
          refine AC.seq ?_
          refine AC.region ?_
          refine AO.yld _ (Yld.move rfl) rfl rfl rfl ?_
          refine AO.yld _ (Yld.fieldAddr Try.underlying145 rfl rfl Try.sizeOf9 rfl rfl rfl) rfl rfl rfl ?_
          refine AO.yld _ (Yld.load Try.isAgg9 rfl rfl) rfl rfl rfl ?_
          refine AO.yld _ (Yld.call rfl rfl Try.call106 rfl rfl rfl (impl_settingIndex_c (by first | assumption | omega)) rfl) rfl rfl rfl ?_
          refine AO.yld _ (Yld.int rfl rfl rfl) rfl rfl rfl ?_
          refine AO.nil ?_
          refine AC.cond _ rfl (fun c29 => ?_) (fun c29 => ?_)
          · -- c29 True
            refine AC.region ?_
            refine AO.yld _ (Yld.move rfl) rfl rfl rfl ?_
            refine AO.yld _ (Yld.loadAgg Try.isAgg145 Try.sizeOf145 rfl rfl rfl rfl) rfl rfl rfl ?_
            refine AO.yld _ (Yld.buildA (zs := [.v (.int .i64 0), .v (str []), .v (.int .i64 0)]) bld147 rfl rfl) rfl rfl rfl ?_
            refine AO.buildSlice (rows := [[_, _, _]]) 2 Try.underlying64 ty147 rfl rfl rfl rfl rfl rfl rfl rfl rfl ?_
            refine AO.append 0 Try.underlying64 ty147 rfl rfl rfl rfl rfl rfl rfl (by simp [pvOne, str]) (by simp only [List.length_map, List.length_cons, List.length_nil, List.length_append]; omega) (by simp only [List.length_map, List.length_cons, List.length_nil, List.length_append]; omega) rfl ?_
            refine AO.yld _ (Yld.assign rfl) rfl rfl rfl ?_
            refine AO.nil ?_
            refine AC.mark ?_
            refine AC.region ?_
            refine AO.yld _ (Yld.add rfl rfl (by omega) (by omega)) rfl rfl rfl ?_
            refine AO.yld _ (Yld.move rfl) rfl rfl rfl ?_
            refine AO.nil ?_
            refine AC.back ⟨k + 1, ?_, ?_, ⟨?_, ?_, trivial⟩, ⟨?_, trivial⟩, ⟨rfl, rfl, rfl, rfl, rfl, rfl, trivial⟩, ⟨rfl, trivial⟩⟩
            · exact hk
            · omega
            · rfl
            · rfl
            · first | (rw [drops_T hx (by simpa using c29)]; rw [map_snoc]; rfl) | (rw [drops_F hx (by simpa using c29)]; rfl)
          · -- c29 False
            refine AC.skip ?_
            refine AC.mark ?_
            refine AC.region ?_
            refine AO.yld _ (Yld.add rfl rfl (by omega) (by omega)) rfl rfl rfl ?_
            refine AO.yld _ (Yld.move rfl) rfl rfl rfl ?_
            refine AO.nil ?_
            refine AC.back ⟨k + 1, ?_, ?_, ⟨?_, ?_, trivial⟩, ⟨?_, trivial⟩, ⟨rfl, rfl, rfl, rfl, rfl, rfl, trivial⟩, ⟨rfl, trivial⟩⟩
            · exact hk
            · omega
            · rfl
            · rfl
            · first | (rw [drops_T hx (by simpa using c29)]; rw [map_snoc]; rfl) | (rw [drops_F hx (by simpa using c29)]; rfl)
        · -- c22 False
          obtain rfl : k = a.length := by have := ge_of_decM c22; omega
          refine AC.exit rfl ?_
          refine AC.seq ?_
          refine AC.seq ?_
          refine AC.region ?_
          refine AO.yld _ (Yld.move rfl) rfl rfl rfl ?_
          refine AO.yld _ (Yld.len Try.underlying67 rfl rfl) rfl rfl rfl ?_
          refine AO.yld _ (Yld.move rfl) rfl rfl rfl ?_
          refine AO.nil ?_
          refine AC.block ?_
          refine AC.loopC [(0, _), (4, _), (5, _), (36, _), (37, _)] [(900, _)] (fun (k : Nat) => [(38, .p (.v (.int .i64 (k : Int)))), (6, .h 0)]) (fun (k : Nat) => [(0, .vec 147 3 ((drops a b a.length ++ sets a b k).map encChg))]) (fun (k : Nat) => k ≤ b.length) (fun (k : Nat) => b.length - k) 0 ⟨rfl, rfl, rfl, rfl, rfl, trivial⟩ ⟨rfl, trivial⟩ ⟨rfl, rfl, trivial⟩ ⟨by show some _ = some (Res.vec _ _ ((drops a b a.length ++ []).map encChg)); rw [List.append_nil]; try rfl, trivial⟩ ?_ (fun k hJ => ?_)
          · exact Nat.zero_le _
          · -- round
            refine AC.seq ?_
            refine AC.region ?_
            refine AO.yld _ (Yld.int rfl rfl rfl) rfl rfl rfl ?_
            refine AO.nil ?_
            refine AC.seq ?_
            refine AC.cond _ rfl (fun c39 => ?_) (fun c39 => ?_)
            · -- c39 True
              have hk := lt_of_decM c39
              obtain ⟨x, hx⟩ := get_some hk
              have hrow := map_row (enc := encNV) hx
              have hdl := drops_len (a := a) (b := b) a.length
              have hdk := sets_len (a := a) (b := b) k
              refine AC.skip ?_
              refine AC.seq ?_
              refine AC.block ?_
              refine AC.seq ?_
              refine AC.region ?_
              refine AO.yld _ (Yld.indexSl Try.underlying67 Try.sizeOf145 rfl rfl hrow rfl) rfl rfl rfl ?_
              refine AO.yld _ (Yld.loadAgg Try.isAgg145 Try.sizeOf145 rfl rfl rfl rfl) rfl rfl rfl ?_
              refine AO.alloc 1 Try.zeroValue145 rfl rfl rfl ?_
              refine AO.store Try.sizeOf145 rfl rfl rfl rfl rfl rfl ?_
              refine AO.nil ?_
              refine AC.seq ?_
              refine AC.region ?_
              refine AO.yld _ (Yld.move rfl) rfl rfl rfl ?_
              refine AO.yld _ (Yld.loadAgg Try.isAgg145 Try.sizeOf145 rfl rfl rfl rfl) rfl rfl rfl ?_
              refine AO.yld _ (Yld.call rfl rfl Try.call107 rfl rfl rfl (containsSetting_c (by first | assumption | omega)) rfl) rfl rfl rfl ?_
              refine AO.yld _ (Yld.not rfl) rfl rfl rfl ?_
              refine AO.nil ?_
              refine AC.cond _ rfl (fun c45 => ?_) (fun c45 => ?_)
              · -- c45 True
                refine AC.region ?_
                refine AO.yld _ (Yld.move rfl) rfl rfl rfl ?_
                refine AO.yld _ (Yld.loadAgg Try.isAgg145 Try.sizeOf145 rfl rfl rfl rfl) rfl rfl rfl ?_
                refine AO.yld _ (Yld.buildA (zs := [.v (.int .i64 0), .v (str []), .v (.int .i64 0)]) bld147 rfl rfl) rfl rfl rfl ?_
                refine AO.buildSlice (rows := [[_, _, _]]) 2 Try.underlying64 ty147 rfl rfl rfl rfl rfl rfl rfl rfl rfl ?_
                refine AO.append 0 Try.underlying64 ty147 rfl rfl rfl rfl rfl rfl rfl (by simp [pvOne, str]) (by simp only [List.length_map, List.length_cons, List.length_nil, List.length_append]; omega) (by simp only [List.length_map, List.length_cons, List.length_nil, List.length_append]; omega) rfl ?_
                refine AO.yld _ (Yld.assign rfl) rfl rfl rfl ?_
                refine AO.nil ?_
                refine AC.mark ?_
                refine AC.region ?_
                refine AO.yld _ (Yld.add rfl rfl (by omega) (by omega)) rfl rfl rfl ?_
                refine AO.yld _ (Yld.move rfl) rfl rfl rfl ?_
                refine AO.nil ?_
                refine AC.back ⟨k + 1, ?_, ?_, ⟨?_, ?_, trivial⟩, ⟨?_, trivial⟩, ⟨rfl, rfl, rfl, rfl, rfl, trivial⟩, ⟨rfl, trivial⟩⟩
                · exact hk
                · omega
                · rfl
                · rfl
                · first | (rw [sets_T hx (by simpa using c45)]; rw [← List.append_assoc, map_snoc]; rfl) | (rw [sets_F hx (by simpa using c45)]; rfl)
              · -- c45 False
                refine AC.skip ?_
                refine AC.mark ?_
                refine AC.region ?_
                refine AO.yld _ (Yld.add rfl rfl (by omega) (by omega)) rfl rfl rfl ?_
                refine AO.yld _ (Yld.move rfl) rfl rfl rfl ?_
                refine AO.nil ?_
                refine AC.back ⟨k + 1, ?_, ?_, ⟨?_, ?_, trivial⟩, ⟨?_, trivial⟩, ⟨rfl, rfl, rfl, rfl, rfl, trivial⟩, ⟨rfl, trivial⟩⟩
                · exact hk
                · omega
                · rfl
                · rfl
                · first | (rw [sets_T hx (by simpa using c45)]; rw [← List.append_assoc, map_snoc]; rfl) | (rw [sets_F hx (by simpa using c45)]; rfl)
            · -- c39 False
              obtain rfl : k = b.length := by have := ge_of_decM c39; omega
              refine AC.exit rfl ?_
              refine AC.seq ?_
              refine AC.region ?_
              refine AO.yld _ (Yld.move rfl) rfl rfl rfl ?_
              refine AO.yld _ (Yld.assign rfl) rfl rfl rfl ?_
              refine AO.yld _ (Yld.assign rfl) rfl rfl rfl ?_
              refine AO.nil ?_
              refine FnE.ret () [0] [0] Try.results45 (RVs.cons (RV.tmp rfl) (RVs.cons (RV.tmp rfl) RVs.nil)) rfl rfl rfl ?_ ?_ ⟨⟨_, rfl, ?_⟩, trivial⟩
              · -- holds
                trivial
              · -- value
                refine tupE ?_; first | (simp_all [diffStates]; done) | grind [diffStates]
              · -- thing 0
                refine vecE ?_; first | (simp_all [diffStates]; done) | grind [diffStates]

theorem laws_markChangeS_c {xs : List Chg} {k0 : Int} (h0 : 0 ≤ k0) (h1 : k0 ≤ 100000000000) (hn : xs.length ≤ 1048576) :
    FnE (α := Unit) Try.prog 49 [.h 0, .p (.v (.int .i64 k0))] [(0, .vec 147 3 (xs.map encChg))] [0] (fun _ => True) (fun _ => .p (.v (.int .i64 (k0 + ((xs.length * 3 : Nat) : Int))))) (fun _ => [(0, .vec 147 3 (mkAll [false, true, false] k0 xs.length))]) := by
  have hM : (xs.map encChg).length = xs.length := List.length_map ..
  refine FnE.intro Try.func49 rfl Try.ntmps49 rfl rfl (fun w0 F0 η φ w => ?_)
  refine AC.seq ?_
  refine AC.region ?_
  refine AO.yld _ (Yld.assign rfl) rfl rfl rfl ?_
  refine AO.nil ?_
  refine AC.seq ?_
  refine AC.seq ?_
  refine AC.region ?_
  refine AO.yld _ (Yld.assign rfl) rfl rfl rfl ?_
  refine AO.nil ?_
  refine AC.block ?_
  refine AC.loopC [(0, _), (4, _)] [(900, _)] (fun (k : Nat) => [(5, .p (.v (.int .i64 (k : Int)))), (1, .p (.v (.int .i64 (k0 + ((k * 3 : Nat) : Int)))))]) (fun (k : Nat) => [(0, .vec 147 3 (mkd [false, true, false] k0 (xs.map encChg) k))]) (fun (k : Nat) => k ≤ xs.length) (fun (k : Nat) => xs.length - k) 0 ⟨rfl, rfl, trivial⟩ ⟨rfl, trivial⟩ ⟨rfl, by show some (AV.p (PV.v (Value.int IntKind.i64 _))) = _; simp, trivial⟩ ⟨by rw [mkd_zero]; rfl, trivial⟩ ?_ (fun k hJ => ?_)
  · exact Nat.zero_le _
  · -- round
    refine AC.seq ?_
    refine AC.seq ?_
    refine AC.region ?_
    refine AO.yld _ (Yld.move rfl) rfl rfl rfl ?_
    refine AO.yld _ (Yld.move rfl) rfl rfl rfl ?_
    refine AO.yld _ (Yld.len Try.underlying64 rfl rfl) rfl rfl rfl ?_
    refine AO.yld _ (Yld.int rfl rfl rfl) rfl rfl rfl ?_
    refine AO.nil ?_
    refine AC.cond _ rfl (fun c9 => ?_) (fun c9 => ?_)
    · -- c9 True
      have hk : k < xs.length := by have h := c9; rw [mkd_length (by omega), hM] at h; simpa using h
      obtain ⟨x, hx⟩ := get_some hk
      have hrow := map_row (enc := encChg) hx
      refine AC.skip ?_
      refine AC.seq ?_
      refine AC.block ?_
      refine AC.seq ?_
      refine AC.region ?_
      refine AO.yld _ (Yld.move rfl) rfl rfl rfl ?_
      refine AO.yld _ (Yld.move rfl) rfl rfl rfl ?_
      refine AO.yld _ (Yld.move rfl) rfl rfl rfl ?_
      refine AO.yld _ (Yld.indexVec Try.underlying64 Try.sizeOf147 rfl rfl rfl rfl (by first | (rw [mkd_length (by omega), hM]; exact hk) | (simp only [List.length_set]; rw [mkd_length (by omega), hM]; exact hk))) rfl rfl rfl ?_
      refine AO.yld _ (Yld.fieldAddr Try.underlying147 rfl rfl Try.sizeOf2 rfl (behind_el rfl (mkd_get hrow)) rfl) rfl rfl rfl ?_
      refine AO.store Try.sizeOf2 rfl rfl rfl rfl rfl (store_el rfl (mkd_get hrow) rfl rfl) ?_
      refine AO.nil ?_
      refine AC.seq ?_
      refine AC.region ?_
      refine AO.yld _ (Yld.move rfl) rfl rfl rfl ?_
      refine AO.yld _ (Yld.add rfl rfl (by omega) (by omega)) rfl rfl rfl ?_
      refine AO.yld _ (Yld.assign rfl) rfl rfl rfl ?_
      refine AO.nil ?_
      refine AC.seq ?_
      refine AC.region ?_
      refine AO.yld _ (Yld.move rfl) rfl rfl rfl ?_
      refine AO.yld _ (Yld.move rfl) rfl rfl rfl ?_
      refine AO.yld _ (Yld.move rfl) rfl rfl rfl ?_
      refine AO.yld _ (Yld.call rfl rfl Try.call80 rfl rfl rfl (laws_markText_c (by omega)) rfl) rfl rfl rfl ?_
      refine AO.yld _ (Yld.indexVec Try.underlying64 Try.sizeOf147 rfl rfl rfl rfl (by first | (rw [mkd_length (by omega), hM]; exact hk) | (simp only [List.length_set]; rw [mkd_length (by omega), hM]; exact hk))) rfl rfl rfl ?_
      refine AO.yld _ (Yld.fieldAddr Try.underlying147 rfl rfl Try.sizeOf145 rfl (behind_el rfl (set_get (by first | (rw [mkd_length (by omega), hM]; exact hk) | (simp only [List.length_set]; rw [mkd_length (by omega), hM]; exact hk)))) rfl) rfl rfl rfl ?_
      refine AO.yld _ (Yld.fieldAddr Try.underlying145 rfl rfl Try.sizeOf9 rfl (behind_el rfl (set_get (by first | (rw [mkd_length (by omega), hM]; exact hk) | (simp only [List.length_set]; rw [mkd_length (by omega), hM]; exact hk)))) rfl) rfl rfl rfl ?_
      refine AO.store Try.sizeOf9 rfl rfl rfl rfl rfl (store_el rfl (set_get (by first | (rw [mkd_length (by omega), hM]; exact hk) | (simp only [List.length_set]; rw [mkd_length (by omega), hM]; exact hk))) rfl rfl) ?_
      refine AO.nil ?_
      refine AC.seq ?_
      refine AC.region ?_
      refine AO.yld _ (Yld.move rfl) rfl rfl rfl ?_
      refine AO.yld _ (Yld.add rfl rfl (by omega) (by omega)) rfl rfl rfl ?_
      refine AO.yld _ (Yld.assign rfl) rfl rfl rfl ?_
      refine AO.nil ?_
      refine AC.seq ?_
      refine AC.region ?_
      refine AO.yld _ (Yld.move rfl) rfl rfl rfl ?_
      refine AO.yld _ (Yld.move rfl) rfl rfl rfl ?_
      refine AO.yld _ (Yld.move rfl) rfl rfl rfl ?_
      refine AO.yld _ (Yld.indexVec Try.underlying64 Try.sizeOf147 rfl rfl rfl rfl (by first | (rw [mkd_length (by omega), hM]; exact hk) | (simp only [List.length_set]; rw [mkd_length (by omega), hM]; exact hk))) rfl rfl rfl ?_
      refine AO.yld _ (Yld.fieldAddr Try.underlying147 rfl rfl Try.sizeOf145 rfl (behind_el rfl (set_get (by first | (rw [mkd_length (by omega), hM]; exact hk) | (simp only [List.length_set]; rw [mkd_length (by omega), hM]; exact hk)))) rfl) rfl rfl rfl ?_
      refine AO.yld _ (Yld.fieldAddr Try.underlying145 rfl rfl Try.sizeOf2 rfl (behind_el rfl (set_get (by first | (rw [mkd_length (by omega), hM]; exact hk) | (simp only [List.length_set]; rw [mkd_length (by omega), hM]; exact hk)))) rfl) rfl rfl rfl ?_
      refine AO.store Try.sizeOf2 rfl rfl rfl rfl rfl (store_el rfl (set_get (by first | (rw [mkd_length (by omega), hM]; exact hk) | (simp only [List.length_set]; rw [mkd_length (by omega), hM]; exact hk))) rfl rfl) ?_
      refine AO.nil ?_
      refine AC.region ?_
      refine AO.yld _ (Yld.move rfl) rfl rfl rfl ?_
      refine AO.yld _ (Yld.add rfl rfl (by omega) (by omega)) rfl rfl rfl ?_
      refine AO.yld _ (Yld.assign rfl) rfl rfl rfl ?_
      refine AO.nil ?_
      refine AC.mark ?_
      refine AC.region ?_
      refine AO.yld _ (Yld.move rfl) rfl rfl rfl ?_
      refine AO.yld _ (Yld.add rfl rfl (by omega) (by omega)) rfl rfl rfl ?_
      refine AO.yld _ (Yld.assign rfl) rfl rfl rfl ?_
      refine AO.nil ?_
      refine AC.back ⟨k + 1, ?_, ?_, ⟨?_, ?_, trivial⟩, ⟨?_, trivial⟩, ⟨rfl, rfl, trivial⟩, ⟨rfl, trivial⟩⟩
      · exact hk
      · omega
      · rfl
      · show some (AV.p (PV.v (Value.int IntKind.i64 _))) = _; congr 4; omega
      · try simp only [List.set_set]
        rw [← mkd_set (by rw [hM]; exact hk)]; rfl
    · -- c9 False
      obtain rfl : k = xs.length := by have h := c9; rw [mkd_length (by omega), hM] at h; simp at h; omega
      refine AC.exit rfl ?_
      refine AC.seq ?_
      refine AC.region ?_
      refine AO.yld _ (Yld.move rfl) rfl rfl rfl ?_
      refine AO.yld _ (Yld.assign rfl) rfl rfl rfl ?_
      refine AO.nil ?_
      refine FnE.ret () [0] [0] Try.results49 (RVs.cons (RV.tmp rfl) RVs.nil) rfl rfl rfl ?_ ?_ ⟨⟨_, rfl, ?_⟩, trivial⟩
      · -- holds
        trivial
      · -- value
        rfl
      · -- thing 0
        exact vecE (by rw [← hM, mkd_end])

theorem laws_heldChangeS_c {k0 : Int} {n : Nat} (h0 : 0 ≤ k0) (h1 : k0 ≤ 100000000000) (hn : n ≤ 1048576) :
    Pure Try.prog 50 [.sl 3 (mkAll [false, true, false] k0 n), .v (.int .i64 k0)] (.v (.int .i64 (k0 + ((n * 3 : Nat) : Int)))) := by
  refine Pure.intro Try.func50 rfl Try.ntmps50 rfl rfl (fun w => ?_)
  refine AC.seq ?_
  refine AC.region ?_
  refine AO.yld _ (Yld.assign rfl) rfl rfl rfl ?_
  refine AO.nil ?_
  refine AC.seq ?_
  refine AC.seq ?_
  refine AC.region ?_
  refine AO.yld _ (Yld.assign rfl) rfl rfl rfl ?_
  refine AO.nil ?_
  refine AC.block ?_
  refine AC.loopC [(0, _)] [] (fun (k : Nat) => [(5, .p (.v (.int .i64 (k : Int)))), (1, .p (.v (.int .i64 (k0 + ((k * 3 : Nat) : Int)))))]) (fun (k : Nat) => []) (fun (k : Nat) => k ≤ n) (fun (k : Nat) => n - k) 0 ⟨rfl, trivial⟩ trivial ⟨rfl, by show some (AV.p (PV.v (Value.int IntKind.i64 _))) = _; simp, trivial⟩ trivial ?_ (fun k hJ => ?_)
  · exact Nat.zero_le _
  · -- round
    refine AC.seq ?_
    refine AC.seq ?_
    refine AC.region ?_
    refine AO.yld _ (Yld.move rfl) rfl rfl rfl ?_
    refine AO.yld _ (Yld.move rfl) rfl rfl rfl ?_
    refine AO.yld _ (Yld.len Try.underlying64 rfl rfl) rfl rfl rfl ?_
    refine AO.yld _ (Yld.int rfl rfl rfl) rfl rfl rfl ?_
    refine AO.nil ?_
    refine AC.cond _ rfl (fun c9 => ?_) (fun c9 => ?_)
    · -- c9 True
      have hk : k < n := by have h := c9; rw [mkAll_length] at h; simpa using h
      have hrow := mkAll_get (ks := [false, true, false]) (k0 := k0) hk
      refine AC.skip ?_
      refine AC.seq ?_
      refine AC.block ?_
      refine AC.seq ?_
      refine AC.seq ?_
      refine AC.region ?_
      refine AO.yld _ (Yld.move rfl) rfl rfl rfl ?_
      refine AO.yld _ (Yld.move rfl) rfl rfl rfl ?_
      refine AO.yld _ (Yld.indexSl Try.underlying64 Try.sizeOf147 rfl rfl hrow rfl) rfl rfl rfl ?_
      refine AO.yld _ (Yld.fieldAddr Try.underlying147 rfl rfl Try.sizeOf2 rfl rfl rfl) rfl rfl rfl ?_
      refine AO.yld _ (Yld.load Try.isAgg2 rfl rfl) rfl rfl rfl ?_
      refine AO.yld _ (Yld.move rfl) rfl rfl rfl ?_
      refine AO.yld _ (Yld.int rfl rfl rfl) rfl rfl rfl ?_
      refine AO.nil ?_
      refine AC.cond _ rfl (fun c18 => ?_) (fun c18 => ?_)
      · -- c18 True
        exfalso; simp at c18
      · -- c18 False
        refine AC.skip ?_
        refine AC.seq ?_
        refine AC.region ?_
        refine AO.yld _ (Yld.move rfl) rfl rfl rfl ?_
        refine AO.yld _ (Yld.add rfl rfl (by omega) (by omega)) rfl rfl rfl ?_
        refine AO.yld _ (Yld.assign rfl) rfl rfl rfl ?_
        refine AO.nil ?_
        refine AC.seq ?_
        refine AC.seq ?_
        refine AC.draw (by kernel_rfl) (by kernel_rfl) ?_
        refine AO.yld _ (Yld.move rfl) rfl rfl rfl ?_
        refine AO.yld _ (Yld.move rfl) rfl rfl rfl ?_
        refine AO.yld _ (Yld.indexSl Try.underlying64 Try.sizeOf147 rfl rfl hrow rfl) rfl rfl rfl ?_
        refine AO.yld _ (Yld.fieldAddr Try.underlying147 rfl rfl Try.sizeOf145 rfl rfl rfl) rfl rfl rfl ?_
        refine AO.yld _ (Yld.fieldAddr Try.underlying145 rfl rfl Try.sizeOf9 rfl rfl rfl) rfl rfl rfl ?_
        refine AO.yld _ (Yld.load Try.isAgg9 rfl rfl) rfl rfl rfl ?_
        refine AO.yld _ (Yld.move rfl) rfl rfl rfl ?_
        refine AO.yld _ (Yld.call rfl rfl Try.call80 rfl rfl rfl (laws_markText_c (by omega)) rfl) rfl rfl rfl ?_
        refine AO.yld _ (Yld.cmpStr rfl rfl rfl) rfl rfl rfl ?_
        refine AO.nil ?_
        refine AC.cond _ rfl (fun c29 => ?_) (fun c29 => ?_)
        · -- c29 True
          exfalso; simp at c29
        · -- c29 False
          refine AC.skip ?_
          refine AC.seq ?_
          refine AC.region ?_
          refine AO.yld _ (Yld.move rfl) rfl rfl rfl ?_
          refine AO.yld _ (Yld.add rfl rfl (by omega) (by omega)) rfl rfl rfl ?_
          refine AO.yld _ (Yld.assign rfl) rfl rfl rfl ?_
          refine AO.nil ?_
          refine AC.seq ?_
          refine AC.seq ?_
          refine AC.region ?_
          refine AO.yld _ (Yld.move rfl) rfl rfl rfl ?_
          refine AO.yld _ (Yld.move rfl) rfl rfl rfl ?_
          refine AO.yld _ (Yld.indexSl Try.underlying64 Try.sizeOf147 rfl rfl hrow rfl) rfl rfl rfl ?_
          refine AO.yld _ (Yld.fieldAddr Try.underlying147 rfl rfl Try.sizeOf145 rfl rfl rfl) rfl rfl rfl ?_
          refine AO.yld _ (Yld.fieldAddr Try.underlying145 rfl rfl Try.sizeOf2 rfl rfl rfl) rfl rfl rfl ?_
          refine AO.yld _ (Yld.load Try.isAgg2 rfl rfl) rfl rfl rfl ?_
          refine AO.yld _ (Yld.move rfl) rfl rfl rfl ?_
          refine AO.yld _ (Yld.int rfl rfl rfl) rfl rfl rfl ?_
          refine AO.nil ?_
          refine AC.cond _ rfl (fun c39 => ?_) (fun c39 => ?_)
          · -- c39 True
            exfalso; simp at c39
          · -- c39 False
            refine AC.skip ?_
            refine AC.region ?_
            refine AO.yld _ (Yld.move rfl) rfl rfl rfl ?_
            refine AO.yld _ (Yld.add rfl rfl (by omega) (by omega)) rfl rfl rfl ?_
            refine AO.yld _ (Yld.assign rfl) rfl rfl rfl ?_
            refine AO.nil ?_
            refine AC.mark ?_
            refine AC.region ?_
            refine AO.yld _ (Yld.move rfl) rfl rfl rfl ?_
            refine AO.yld _ (Yld.add rfl rfl (by omega) (by omega)) rfl rfl rfl ?_
            refine AO.yld _ (Yld.assign rfl) rfl rfl rfl ?_
            refine AO.nil ?_
            refine AC.back ⟨k + 1, ?_, ?_, ⟨?_, ?_, trivial⟩, trivial, ⟨rfl, trivial⟩, trivial⟩
            · exact hk
            · omega
            · rfl
            · show some (AV.p (PV.v (Value.int IntKind.i64 _))) = _; congr 4; omega
    · -- c9 False
      obtain rfl : k = n := by have h := c9; rw [mkAll_length] at h; simp at h; omega
      refine AC.exit rfl ?_
      refine AC.seq ?_
      refine AC.region ?_
      refine AO.yld _ (Yld.move rfl) rfl rfl rfl ?_
      refine AO.yld _ (Yld.assign rfl) rfl rfl rfl ?_
      refine AO.nil ?_
      refine Pure.ret Try.results50 (RVs.cons (RV.tmp rfl) RVs.nil) rfl ?_
      rfl

end Go.Proofs.Ytaanabofedickaa
