/- Contracts of functions of the program, each by a walk of its text in the calculus V. -/
import Derived.Test.YtdgjlkdcklfieaaDoorXA
import Derived.Test.YtdgjlkdcklfieaaDoorD11
import Derived.Test.YtdgjlkdcklfieaaDoorD12
import Derived.Test.YtdgjlkdcklfieaaDoorD14
import Derived.Test.YtdgjlkdcklfieaaDoorD15
import Derived.Test.YtdgjlkdcklfieaaDoorD17
import Derived.Test.YtdgjlkdcklfieaaDoorD13
import Derived.Test.YtdgjlkdcklfieaaDoorD18
set_option linter.all false
set_option linter.unusedSimpArgs false
set_option linter.unnecessarySimpa false
set_option linter.unusedVariables false
namespace Go.Proofs.YtdgjlkdcklfieaaDoor
open Go Go.V
theorem ty2 : TyIs Tryd.prog 2 (.int .i64 0) 1 8 := by unfold TyIs; kernel_rfl
theorem ty164 : TyIs Tryd.prog 164 (.agg #[.int .i64 0, .string ⟨#[]⟩, .int .i64 0]) 3 32 := by unfold TyIs; kernel_rfl
theorem bld74 : BuildIs Tryd.prog 74 [(0, 1), (1, 1), (2, 1), (3, 1)] (.agg #[.int .i64 0, .int .i64 0, .string ⟨#[]⟩, .slice none 0 0]) := by
  intro ps cells w h
  have h2 : Instr.fill (fun i => ([(0, 1), (1, 1), (2, 1), (3, 1)] : List (Nat × Nat))[i]?) #[.int .i64 0, .int .i64 0, .string ⟨#[]⟩, .slice none 0 0] ps.toList = some cells := h
  simp [Instr.build, go_sem, Tryd.zeroValue74, run_underlying Tryd.underlying74, Tryd.sizeOf2, Tryd.sizeOf9, Tryd.sizeOf72, h2]
theorem bld164 : BuildIs Tryd.prog 164 [(0, 1), (1, 2)] (.agg #[.int .i64 0, .string ⟨#[]⟩, .int .i64 0]) := by
  intro ps cells w h
  have h2 : Instr.fill (fun i => ([(0, 1), (1, 2)] : List (Nat × Nat))[i]?) #[.int .i64 0, .string ⟨#[]⟩, .int .i64 0] ps.toList = some cells := h
  simp [Instr.build, go_sem, Tryd.zeroValue164, run_underlying Tryd.underlying164, Tryd.sizeOf2, Tryd.sizeOf146, h2]

theorem impl_FalseClocks_c {xs : List Mach} (hn : xs.length ≤ 1048576) (hs : ∀ x ∈ xs, x.name.length ≤ 1048576) :
    FnE (α := Unit) Tryd.prog 16 [.p (.sl 3 (xs.map encMach))] [] [] (fun _ => True) (fun _ => .tup [.h 0, .p (.v (.int .i64 (falseClocks xs).2))]) (fun _ => [(0, .vec 2 1 ((falseClocks xs).1.map encI))]) := by
  refine FnE.intro Tryd.func16 rfl Tryd.ntmps16 rfl rfl (fun w0 F0 η φ w => ?_)
  refine AC.seq ?_
  refine AC.region ?_
  refine AO.yld _ (Yld.assign rfl) rfl rfl rfl ?_
  refine AO.yld _ (Yld.assign rfl) rfl rfl rfl ?_
  refine AO.nil ?_
  refine AC.seq ?_
  refine AC.seq ?_
  refine AC.region ?_
  refine AO.yld _ (Yld.move rfl) rfl rfl rfl ?_
  refine AO.yld _ (Yld.call rfl rfl Tryd.call71 rfl rfl rfl (impl_checkMachines_c (by first | assumption | omega) (by assumption)) rfl) rfl rfl rfl ?_
  refine AO.yld _ (Yld.assign rfl) rfl rfl rfl ?_
  refine AO.nil ?_
  refine AC.seq ?_
  refine AC.region ?_
  refine AO.yld _ (Yld.move rfl) rfl rfl rfl ?_
  refine AO.yld _ (Yld.int rfl rfl rfl) rfl rfl rfl ?_
  refine AO.nil ?_
  refine AC.cond _ rfl (fun c13 => ?_) (fun c13 => ?_)
  · -- c13 True
    refine AC.seq ?_
    refine AC.region ?_
    refine AO.yld _ (Yld.move rfl) rfl rfl rfl ?_
    refine AO.yld _ (Yld.assign rfl) rfl rfl rfl ?_
    refine AO.yld _ (Yld.assign rfl) rfl rfl rfl ?_
    refine AO.nil ?_
    refine AC.nilVec 2 0 2 1 rfl rfl ?_
    refine FnE.ret () [0] [0] Tryd.results16 (RVs.cons (RV.tmp rfl) (RVs.cons (RV.tmp rfl) RVs.nil)) rfl rfl rfl ?_ ?_ ⟨⟨_, rfl, ?_⟩, trivial⟩
    · -- holds
      trivial
    · -- value
      refine tupE ?_; first | (simp_all [falseClocks]; done) | grind [falseClocks]
    · -- thing 0
      refine vecE ?_; first | (simp_all [falseClocks, idxOn]; done) | grind [falseClocks, idxOn]
  · -- c13 False
    have hk0 : askMachines xs = 0 := by first | (simpa using c13) | (exact absurd c13 (by decide))
    have hok := (ask_ok hk0).1
    refine AC.skip ?_
    refine AC.seq ?_
    refine AC.region ?_
    refine AO.yld _ (Yld.move rfl) rfl rfl rfl ?_
    refine AO.yld _ (Yld.call rfl rfl Tryd.call72 rfl rfl rfl (impl_agreedOffset_c (by first | assumption | omega) (by assumption)) rfl) rfl rfl rfl ?_
    refine AO.yld _ (Yld.move rfl) rfl rfl rfl ?_
    refine AO.yld _ (Yld.extract rfl rfl rfl) rfl rfl rfl ?_
    refine AO.yld _ (Yld.extract rfl rfl rfl) rfl rfl rfl ?_
    refine AO.yld _ (Yld.assign rfl) rfl rfl rfl ?_
    refine AO.yld _ (Yld.assign rfl) rfl rfl rfl ?_
    refine AO.nil ?_
    refine AC.seq ?_
    refine AC.region ?_
    refine AO.yld _ (Yld.assign rfl) rfl rfl rfl ?_
    refine AO.nil ?_
    refine AC.seq ?_
    refine AC.seq ?_
    refine AC.region ?_
    refine AO.yld _ (Yld.move rfl) rfl rfl rfl ?_
    refine AO.yld _ (Yld.len Tryd.underlying24 rfl rfl) rfl rfl rfl ?_
    refine AO.yld _ (Yld.move rfl) rfl rfl rfl ?_
    refine AO.nil ?_
    refine AC.block ?_
    refine AC.nilVec 7 0 2 1 rfl rfl ?_
    refine AC.loopC [(2, _), (3, _), (5, _), (20, _), (21, _)] [(900, _)] (fun (k : Nat) => [(22, .p (.v (.int .i64 (k : Int)))), (7, .h 0)]) (fun (k : Nat) => [(0, .vec 2 1 ((idxTo (falseB (bestB xs xs.length).1) xs k).map encI))]) (fun (k : Nat) => k ≤ xs.length) (fun (k : Nat) => xs.length - k) 0 ⟨rfl, rfl, rfl, rfl, rfl, trivial⟩ ⟨rfl, trivial⟩ ⟨rfl, rfl, trivial⟩ ⟨rfl, trivial⟩ ?_ (fun k hJ => ?_)
    · exact Nat.zero_le _
    · -- round
      refine AC.seq ?_
      refine AC.region ?_
      refine AO.yld _ (Yld.int rfl rfl rfl) rfl rfl rfl ?_
      refine AO.nil ?_
      refine AC.seq ?_
      refine AC.cond _ rfl (fun c23 => ?_) (fun c23 => ?_)
      · -- c23 True
        have hk := lt_of_decM c23
        obtain ⟨x, hx⟩ := get_some hk
        have hrow := map_row (enc := encMach) hx
        have hox := machines_at hok hx
        have hlx := mach_lim hox
        have hil := idxTo_len (p := (falseB (bestB xs xs.length).1)) (xs := xs) k
        refine AC.skip ?_
        refine AC.seq ?_
        refine AC.block ?_
        refine AC.seq ?_
        refine AC.region ?_
        refine AO.yld _ (Yld.move rfl) rfl rfl rfl ?_
        refine AO.yld _ (Yld.indexSl Tryd.underlying24 Tryd.sizeOf33 rfl rfl hrow rfl) rfl rfl rfl ?_
        refine AO.yld _ (Yld.loadAgg Tryd.isAgg33 Tryd.sizeOf33 rfl rfl rfl rfl) rfl rfl rfl ?_
        refine AO.alloc 1 Tryd.zeroValue33 rfl rfl rfl ?_
        refine AO.yld _ (Yld.assign rfl) rfl rfl rfl ?_
        refine AO.store Tryd.sizeOf33 rfl rfl rfl rfl rfl rfl ?_
        refine AO.nil ?_
        refine AC.seq ?_
        refine AC.region ?_
        refine AO.yld _ (Yld.loadAgg Tryd.isAgg33 Tryd.sizeOf33 rfl rfl rfl rfl) rfl rfl rfl ?_
        refine AO.yld _ (Yld.move rfl) rfl rfl rfl ?_
        refine AO.yld _ (Yld.call rfl rfl Tryd.call73 rfl rfl rfl (impl_liesIn_c (by assumption)) rfl) rfl rfl rfl ?_
        refine AO.yld _ (Yld.not rfl) rfl rfl rfl ?_
        refine AO.nil ?_
        refine AC.cond _ rfl (fun c30 => ?_) (fun c30 => ?_)
        · -- c30 True
          refine AC.region ?_
          refine AO.yld _ (Yld.move rfl) rfl rfl rfl ?_
          refine AO.yld _ (Yld.move rfl) rfl rfl rfl ?_
          refine AO.buildSlice (rows := [[_]]) 2 Tryd.underlying28 ty2 rfl rfl rfl rfl rfl rfl rfl rfl rfl ?_
          refine AO.append 0 Tryd.underlying28 ty2 rfl rfl rfl rfl rfl rfl rfl (by simp [pvOne]) (by simp only [List.length_map, List.length_cons, List.length_nil]; omega) (by simp only [List.length_map, List.length_cons, List.length_nil]; omega) rfl ?_
          refine AO.yld _ (Yld.assign rfl) rfl rfl rfl ?_
          refine AO.nil ?_
          refine AC.mark ?_
          refine AC.region ?_
          refine AO.yld _ (Yld.add rfl rfl (by omega) (by omega)) rfl rfl rfl ?_
          refine AO.yld _ (Yld.move rfl) rfl rfl rfl ?_
          refine AO.nil ?_
          refine AC.back ⟨k + 1, ?_, ?_, ⟨?_, ?_, trivial⟩, ⟨?_, trivial⟩, ⟨rfl, rfl, rfl, rfl, rfl, trivial⟩, ⟨rfl, trivial⟩⟩
          · exact hk
          · omega
          · rfl
          · rfl
          · first | (rw [idxTo_T hx (c30)]; rw [map_snoc]; rfl) | (rw [idxTo_F hx (c30)]; rfl)
        · -- c30 False
          refine AC.skip ?_
          refine AC.mark ?_
          refine AC.region ?_
          refine AO.yld _ (Yld.add rfl rfl (by omega) (by omega)) rfl rfl rfl ?_
          refine AO.yld _ (Yld.move rfl) rfl rfl rfl ?_
          refine AO.nil ?_
          refine AC.back ⟨k + 1, ?_, ?_, ⟨?_, ?_, trivial⟩, ⟨?_, trivial⟩, ⟨rfl, rfl, rfl, rfl, rfl, trivial⟩, ⟨rfl, trivial⟩⟩
          · exact hk
          · omega
          · rfl
          · rfl
          · first | (rw [idxTo_T hx (c30)]; rw [map_snoc]; rfl) | (rw [idxTo_F hx (c30)]; rfl)
      · -- c23 False
        obtain rfl : k = xs.length := by have := ge_of_decM c23; omega
        refine AC.exit rfl ?_
        refine AC.seq ?_
        refine AC.region ?_
        refine AO.yld _ (Yld.move rfl) rfl rfl rfl ?_
        refine AO.yld _ (Yld.assign rfl) rfl rfl rfl ?_
        refine AO.yld _ (Yld.assign rfl) rfl rfl rfl ?_
        refine AO.nil ?_
        refine FnE.ret () [0] [0] Tryd.results16 (RVs.cons (RV.tmp rfl) (RVs.cons (RV.tmp rfl) RVs.nil)) rfl rfl rfl ?_ ?_ ⟨⟨_, rfl, ?_⟩, trivial⟩
        · -- holds
          trivial
        · -- value
          refine tupE ?_; first | (simp_all [falseClocks]; done) | grind [falseClocks]
        · -- thing 0
          refine vecE ?_; first | (simp_all [falseClocks, idxOn]; done) | grind [falseClocks, idxOn]

theorem spec_l27Memo_c {s : List UInt8} (hn : s.length ≤ 1048576) :
    Pure Tryd.prog 98 [.v (str s)] (.v (.bool (okMemo s))) := by
  refine Pure.intro Tryd.func98 rfl Tryd.ntmps98 rfl rfl (fun w => ?_)
  refine AC.seq ?_
  refine AC.region ?_
  refine AO.yld _ (Yld.assign rfl) rfl rfl rfl ?_
  refine AO.nil ?_
  refine AC.seq ?_
  refine AC.seq ?_
  refine AC.region ?_
  refine AO.yld _ (Yld.assign rfl) rfl rfl rfl ?_
  refine AO.nil ?_
  refine AC.block ?_
  refine AC.loopC [(0, _)] [] (fun (k : Nat) => [(3, .p (.v (.int .i64 (k : Int))))]) (fun (k : Nat) => []) (fun (k : Nat) => k ≤ s.length ∧ allTo memoByte s k = true) (fun (k : Nat) => s.length - k) 0 ⟨rfl, trivial⟩ trivial ⟨rfl, trivial⟩ trivial ?_ (fun k hJ => ?_)
  · exact ⟨Nat.zero_le _, rfl⟩
  · -- round
    refine AC.seq ?_
    refine AC.seq ?_
    refine AC.region ?_
    refine AO.yld _ (Yld.move rfl) rfl rfl rfl ?_
    refine AO.yld _ (Yld.move rfl) rfl rfl rfl ?_
    refine AO.yld _ (Yld.lenStr Tryd.underlying9 rfl) rfl rfl rfl ?_
    refine AO.yld _ (Yld.int rfl rfl rfl) rfl rfl rfl ?_
    refine AO.nil ?_
    refine AC.cond _ rfl (fun c7 => ?_) (fun c7 => ?_)
    · -- c7 True
      have hk := lt_of_dec c7
      obtain ⟨x, hx⟩ := get_some hk
      refine AC.skip ?_
      refine AC.seq ?_
      refine AC.block ?_
      refine AC.seq ?_
      refine AC.region ?_
      refine AO.yld _ (Yld.move rfl) rfl rfl rfl ?_
      refine AO.yld _ (Yld.move rfl) rfl rfl rfl ?_
      refine AO.yld _ (Yld.indexStr Tryd.underlying9 rfl rfl (by omega) (by simpa using hx)) rfl rfl rfl ?_
      refine AO.yld _ (Yld.int rfl rfl rfl) rfl rfl rfl ?_
      refine AO.yld _ (Yld.move rfl) rfl rfl rfl ?_
      refine AO.splitAt 14 _ rfl (fun s14 => ?_) (fun s14 => ?_)
      · -- s14 True
        refine AO.skipF rfl rfl rfl rfl rfl ?_
        refine AO.skipF rfl rfl rfl rfl rfl ?_
        refine AO.skipF rfl rfl rfl rfl rfl ?_
        refine AO.skipF rfl rfl rfl rfl rfl ?_
        refine AO.yld _ (Yld.pickT rfl rfl) rfl rfl rfl ?_
        refine AO.nil ?_
        refine AC.condT rfl ?_
        refine AC.seq ?_
        refine AC.region ?_
        refine AO.yld _ (Yld.assign rfl) rfl rfl rfl ?_
        refine AO.nil ?_
        refine Pure.ret Tryd.results98 (RVs.cons (RV.tmp rfl) RVs.nil) rfl ?_
        first
          | (refine cb ?_; rw [okMemo, all_miss hx (by simp only [memoByte]; first | (simp_all; done) | (simp_all; omega) | (simp_all; intros; omega)), Bool.false_and])
          | (refine cb ?_; rw [okMemo, all_memo hJ.2, Bool.true_and]; exact decide_eq_decide.2 (by omega))
      · -- s14 False
        refine AO.yldG _ (Yld.move rfl) rfl rfl rfl rfl rfl ?_
        refine AO.yldG _ (Yld.move rfl) rfl rfl rfl rfl rfl ?_
        refine AO.yldG _ (Yld.indexStr Tryd.underlying9 rfl rfl (by omega) (by simpa using hx)) rfl rfl rfl rfl rfl ?_
        refine AO.yldG _ (Yld.int rfl rfl rfl) rfl rfl rfl rfl rfl ?_
        refine AO.yld _ (Yld.pickF rfl rfl) rfl rfl rfl ?_
        refine AO.nil ?_
        refine AC.cond _ rfl (fun c19 => ?_) (fun c19 => ?_)
        · -- c19 True
          refine AC.seq ?_
          refine AC.region ?_
          refine AO.yld _ (Yld.assign rfl) rfl rfl rfl ?_
          refine AO.nil ?_
          refine Pure.ret Tryd.results98 (RVs.cons (RV.tmp rfl) RVs.nil) rfl ?_
          first
            | (refine cb ?_; rw [okMemo, all_miss hx (by simp only [memoByte]; first | (simp_all; done) | (simp_all; omega) | (simp_all; intros; omega)), Bool.false_and])
            | (refine cb ?_; rw [okMemo, all_memo hJ.2, Bool.true_and]; exact decide_eq_decide.2 (by omega))
        · -- c19 False
          refine AC.skip ?_
          refine AC.mark ?_
          refine AC.region ?_
          refine AO.yld _ (Yld.move rfl) rfl rfl rfl ?_
          refine AO.yld _ (Yld.add rfl rfl (by omega) (by omega)) rfl rfl rfl ?_
          refine AO.yld _ (Yld.assign rfl) rfl rfl rfl ?_
          refine AO.nil ?_
          refine AC.back ⟨k + 1, ?_, ?_, ⟨?_, trivial⟩, trivial, ⟨rfl, trivial⟩, trivial⟩
          · exact ⟨hk, by rw [allTo_succ hx, hJ.2, Bool.true_and]; exact (by simp only [memoByte]; first | (simp_all; done) | (simp_all; omega) | (simp_all; intros; omega))⟩
          · omega
          · rfl
    · -- c7 False
      obtain rfl : k = s.length := by have := ge_of_dec c7; omega
      refine AC.exit rfl ?_
      refine AC.seq ?_
      refine AC.region ?_
      refine AO.yld _ (Yld.move rfl) rfl rfl rfl ?_
      refine AO.yld _ (Yld.lenStr Tryd.underlying9 rfl) rfl rfl rfl ?_
      refine AO.yld _ (Yld.int rfl rfl rfl) rfl rfl rfl ?_
      refine AO.yld _ (Yld.assign rfl) rfl rfl rfl ?_
      refine AO.nil ?_
      refine Pure.ret Tryd.results98 (RVs.cons (RV.tmp rfl) RVs.nil) rfl ?_
      first
        | (refine cb ?_; rw [okMemo, all_miss hx (by simp only [memoByte]; first | (simp_all; done) | (simp_all; omega) | (simp_all; intros; omega)), Bool.false_and])
        | (refine cb ?_; rw [okMemo, all_memo hJ.2, Bool.true_and]; exact decide_eq_decide.2 (by omega))

theorem impl_validMemo_c {s : List UInt8} (hn : s.length ≤ 1048576) :
    Pure Tryd.prog 102 [.v (str s)] (.v (.bool (okMemo s))) := by
  refine Pure.intro Tryd.func102 rfl Tryd.ntmps102 rfl rfl (fun w => ?_)
  refine AC.seq ?_
  refine AC.region ?_
  refine AO.yld _ (Yld.assign rfl) rfl rfl rfl ?_
  refine AO.nil ?_
  refine AC.seq ?_
  refine AC.seq ?_
  refine AC.region ?_
  refine AO.yld _ (Yld.move rfl) rfl rfl rfl ?_
  refine AO.yld _ (Yld.lenStr Tryd.underlying9 rfl) rfl rfl rfl ?_
  refine AO.yld _ (Yld.int rfl rfl rfl) rfl rfl rfl ?_
  refine AO.nil ?_
  refine AC.cond _ rfl (fun c6 => ?_) (fun c6 => ?_)
  · -- c6 True
    refine AC.seq ?_
    refine AC.region ?_
    refine AO.yld _ (Yld.assign rfl) rfl rfl rfl ?_
    refine AO.nil ?_
    refine Pure.ret Tryd.results102 (RVs.cons (RV.tmp rfl) RVs.nil) rfl ?_
    first
      | (refine cb ?_; rw [okMemo, all_miss hx (by simp only [memoByte]; first | (simp_all; done) | (simp_all; omega) | (simp_all; intros; omega)), Bool.false_and])
      | (refine cb ?_; rw [okMemo, lenN (K := 20) rfl c6]; simp; done)
      | (refine cb ?_; rw [okMemo, lenN (K := 20) rfl c6, all_memo hJ.2]; rfl)
  · -- c6 False
    refine AC.skip ?_
    refine AC.seq ?_
    refine AC.seq ?_
    refine AC.region ?_
    refine AO.yld _ (Yld.assign rfl) rfl rfl rfl ?_
    refine AO.nil ?_
    refine AC.block ?_
    refine AC.loopC [(0, _)] [] (fun (k : Nat) => [(3, .p (.v (.int .i64 (k : Int))))]) (fun (k : Nat) => []) (fun (k : Nat) => k ≤ s.length ∧ allTo memoByte s k = true) (fun (k : Nat) => s.length - k) 0 ⟨rfl, trivial⟩ trivial ⟨rfl, trivial⟩ trivial ?_ (fun k hJ => ?_)
    · exact ⟨Nat.zero_le _, rfl⟩
    · -- round
      refine AC.seq ?_
      refine AC.seq ?_
      refine AC.region ?_
      refine AO.yld _ (Yld.move rfl) rfl rfl rfl ?_
      refine AO.yld _ (Yld.move rfl) rfl rfl rfl ?_
      refine AO.yld _ (Yld.lenStr Tryd.underlying9 rfl) rfl rfl rfl ?_
      refine AO.yld _ (Yld.int rfl rfl rfl) rfl rfl rfl ?_
      refine AO.nil ?_
      refine AC.cond _ rfl (fun c10 => ?_) (fun c10 => ?_)
      · -- c10 True
        have hk := lt_of_dec c10
        obtain ⟨x, hx⟩ := get_some hk
        refine AC.skip ?_
        refine AC.seq ?_
        refine AC.block ?_
        refine AC.seq ?_
        refine AC.region ?_
        refine AO.yld _ (Yld.move rfl) rfl rfl rfl ?_
        refine AO.yld _ (Yld.move rfl) rfl rfl rfl ?_
        refine AO.yld _ (Yld.indexStr Tryd.underlying9 rfl rfl (by omega) (by simpa using hx)) rfl rfl rfl ?_
        refine AO.yld _ (Yld.int rfl rfl rfl) rfl rfl rfl ?_
        refine AO.yld _ (Yld.move rfl) rfl rfl rfl ?_
        refine AO.splitAt 17 _ rfl (fun s17 => ?_) (fun s17 => ?_)
        · -- s17 True
          refine AO.skipF rfl rfl rfl rfl rfl ?_
          refine AO.skipF rfl rfl rfl rfl rfl ?_
          refine AO.skipF rfl rfl rfl rfl rfl ?_
          refine AO.skipF rfl rfl rfl rfl rfl ?_
          refine AO.yld _ (Yld.pickT rfl rfl) rfl rfl rfl ?_
          refine AO.nil ?_
          refine AC.condT rfl ?_
          refine AC.seq ?_
          refine AC.region ?_
          refine AO.yld _ (Yld.assign rfl) rfl rfl rfl ?_
          refine AO.nil ?_
          refine Pure.ret Tryd.results102 (RVs.cons (RV.tmp rfl) RVs.nil) rfl ?_
          first
            | (refine cb ?_; rw [okMemo, all_miss hx (by simp only [memoByte]; first | (simp_all; done) | (simp_all; omega) | (simp_all; intros; omega)), Bool.false_and])
            | (refine cb ?_; rw [okMemo, lenN (K := 20) rfl c6]; simp; done)
            | (refine cb ?_; rw [okMemo, lenN (K := 20) rfl c6, all_memo hJ.2]; rfl)
        · -- s17 False
          refine AO.yldG _ (Yld.move rfl) rfl rfl rfl rfl rfl ?_
          refine AO.yldG _ (Yld.move rfl) rfl rfl rfl rfl rfl ?_
          refine AO.yldG _ (Yld.indexStr Tryd.underlying9 rfl rfl (by omega) (by simpa using hx)) rfl rfl rfl rfl rfl ?_
          refine AO.yldG _ (Yld.int rfl rfl rfl) rfl rfl rfl rfl rfl ?_
          refine AO.yld _ (Yld.pickF rfl rfl) rfl rfl rfl ?_
          refine AO.nil ?_
          refine AC.cond _ rfl (fun c22 => ?_) (fun c22 => ?_)
          · -- c22 True
            refine AC.seq ?_
            refine AC.region ?_
            refine AO.yld _ (Yld.assign rfl) rfl rfl rfl ?_
            refine AO.nil ?_
            refine Pure.ret Tryd.results102 (RVs.cons (RV.tmp rfl) RVs.nil) rfl ?_
            first
              | (refine cb ?_; rw [okMemo, all_miss hx (by simp only [memoByte]; first | (simp_all; done) | (simp_all; omega) | (simp_all; intros; omega)), Bool.false_and])
              | (refine cb ?_; rw [okMemo, lenN (K := 20) rfl c6]; simp; done)
              | (refine cb ?_; rw [okMemo, lenN (K := 20) rfl c6, all_memo hJ.2]; rfl)
          · -- c22 False
            refine AC.skip ?_
            refine AC.mark ?_
            refine AC.region ?_
            refine AO.yld _ (Yld.move rfl) rfl rfl rfl ?_
            refine AO.yld _ (Yld.add rfl rfl (by omega) (by omega)) rfl rfl rfl ?_
            refine AO.yld _ (Yld.assign rfl) rfl rfl rfl ?_
            refine AO.nil ?_
            refine AC.back ⟨k + 1, ?_, ?_, ⟨?_, trivial⟩, trivial, ⟨rfl, trivial⟩, trivial⟩
            · exact ⟨hk, by rw [allTo_succ hx, hJ.2, Bool.true_and]; exact (by simp only [memoByte]; first | (simp_all; done) | (simp_all; omega) | (simp_all; intros; omega))⟩
            · omega
            · rfl
      · -- c10 False
        obtain rfl : k = s.length := by have := ge_of_dec c10; omega
        refine AC.exit rfl ?_
        refine AC.seq ?_
        refine AC.region ?_
        refine AO.yld _ (Yld.assign rfl) rfl rfl rfl ?_
        refine AO.nil ?_
        refine Pure.ret Tryd.results102 (RVs.cons (RV.tmp rfl) RVs.nil) rfl ?_
        first
          | (refine cb ?_; rw [okMemo, all_miss hx (by simp only [memoByte]; first | (simp_all; done) | (simp_all; omega) | (simp_all; intros; omega)), Bool.false_and])
          | (refine cb ?_; rw [okMemo, lenN (K := 20) rfl c6]; simp; done)
          | (refine cb ?_; rw [okMemo, lenN (K := 20) rfl c6, all_memo hJ.2]; rfl)

theorem spec_l27Ok_c {xs : List Ver} (hg : VersGood xs) :
    Pure Tryd.prog 105 [.sl 4 (xs.map encVer)] (.v (.bool (okVers xs))) := by
  have hn := hg.1
  have hM : (xs.map encVer).length = xs.length := List.length_map ..
  refine Pure.intro Tryd.func105 rfl Tryd.ntmps105 rfl rfl (fun w => ?_)
  refine AC.seq ?_
  refine AC.region ?_
  refine AO.yld _ (Yld.assign rfl) rfl rfl rfl ?_
  refine AO.nil ?_
  refine AC.seq ?_
  refine AC.seq ?_
  refine AC.region ?_
  refine AO.yld _ (Yld.assign rfl) rfl rfl rfl ?_
  refine AO.nil ?_
  refine AC.block ?_
  refine AC.loopC [(0, _)] [] (fun (k : Nat) => [(3, .p (.v (.int .i64 (k : Int))))]) (fun (k : Nat) => []) (fun (k : Nat) => k ≤ xs.length ∧ allITo okVer xs k = true) (fun (k : Nat) => xs.length - k) 0 ⟨rfl, trivial⟩ trivial ⟨rfl, trivial⟩ trivial ?_ (fun k hJ => ?_)
  · exact ⟨Nat.zero_le _, rfl⟩
  · -- round
    refine AC.seq ?_
    refine AC.seq ?_
    refine AC.region ?_
    refine AO.yld _ (Yld.move rfl) rfl rfl rfl ?_
    refine AO.yld _ (Yld.move rfl) rfl rfl rfl ?_
    refine AO.yld _ (Yld.len Tryd.underlying80 rfl rfl) rfl rfl rfl ?_
    refine AO.yld _ (Yld.int rfl rfl rfl) rfl rfl rfl ?_
    refine AO.nil ?_
    refine AC.cond _ rfl (fun c8 => ?_) (fun c8 => ?_)
    · -- c8 True
      have hk := lt_of_decM c8
      obtain ⟨x, hx⟩ := get_some hk
      have hrow := map_row (enc := encVer) hx
      obtain ⟨g1, g2, g3⟩ := hg.2 x (List.mem_of_getElem? hx)
      refine AC.skip ?_
      refine AC.seq ?_
      refine AC.block ?_
      refine AC.seq ?_
      refine AC.region ?_
      refine AO.yld _ (Yld.move rfl) rfl rfl rfl ?_
      refine AO.yld _ (Yld.move rfl) rfl rfl rfl ?_
      refine AO.yld _ (Yld.indexSl Tryd.underlying80 Tryd.sizeOf74 rfl rfl hrow rfl) rfl rfl rfl ?_
      refine AO.yld _ (Yld.loadAgg Tryd.isAgg74 Tryd.sizeOf74 rfl rfl rfl rfl) rfl rfl rfl ?_
      refine AO.alloc 0 Tryd.zeroValue74 rfl rfl rfl ?_
      refine AO.store Tryd.sizeOf74 rfl rfl rfl rfl rfl rfl ?_
      refine AO.nil ?_
      refine AC.seq ?_
      refine AC.region ?_
      refine AO.yld _ (Yld.fieldAddr Tryd.underlying74 rfl rfl Tryd.sizeOf2 rfl rfl rfl) rfl rfl rfl ?_
      refine AO.yld _ (Yld.load Tryd.isAgg2 rfl rfl) rfl rfl rfl ?_
      refine AO.yld _ (Yld.move rfl) rfl rfl rfl ?_
      refine AO.yld _ (Yld.add rfl rfl (by omega) (by omega)) rfl rfl rfl ?_
      refine AO.yld _ (Yld.int rfl rfl rfl) rfl rfl rfl ?_
      refine AO.yld _ (Yld.move rfl) rfl rfl rfl ?_
      refine AO.splitAt 20 _ rfl (fun s20 => ?_) (fun s20 => ?_)
      · -- s20 True
        refine AO.skipF rfl rfl rfl rfl rfl ?_
        refine AO.skipF rfl rfl rfl rfl rfl ?_
        refine AO.skipF rfl rfl rfl rfl rfl ?_
        refine AO.skipF rfl rfl rfl rfl rfl ?_
        refine AO.skipF rfl rfl rfl rfl rfl ?_
        refine AO.yld _ (Yld.pickT rfl rfl) rfl rfl rfl ?_
        refine AO.yld _ (Yld.move rfl) rfl rfl rfl ?_
        refine AO.skipF rfl rfl rfl rfl rfl ?_
        refine AO.skipF rfl rfl rfl rfl rfl ?_
        refine AO.skipF rfl rfl rfl rfl rfl ?_
        refine AO.skipF rfl rfl rfl rfl rfl ?_
        refine AO.yld _ (Yld.pickT rfl rfl) rfl rfl rfl ?_
        refine AO.yld _ (Yld.move rfl) rfl rfl rfl ?_
        refine AO.skipF rfl rfl rfl rfl rfl ?_
        refine AO.skipF rfl rfl rfl rfl rfl ?_
        refine AO.skipF rfl rfl rfl rfl rfl ?_
        refine AO.skipF rfl rfl rfl rfl rfl ?_
        refine AO.yld _ (Yld.pickT rfl rfl) rfl rfl rfl ?_
        refine AO.nil ?_
        refine AC.condT rfl ?_
        refine AC.seq ?_
        refine AC.region ?_
        refine AO.yld _ (Yld.assign rfl) rfl rfl rfl ?_
        refine AO.nil ?_
        refine Pure.ret Tryd.results105 (RVs.cons (RV.tmp rfl) RVs.nil) rfl ?_
        first
          | (refine cb ?_; rw [okVers, allI_miss hx (by simp only [okVer]; first | grind | (simp_all; done)), Bool.false_and])
          | (refine cb ?_; rw [okVers, allI_take hJ.2, Bool.true_and, hM]; exact decide_eq_decide.2 (by omega))
      · -- s20 False
        refine AO.yldG _ (Yld.fieldAddr Tryd.underlying74 rfl rfl Tryd.sizeOf2 rfl rfl rfl) rfl rfl rfl rfl rfl ?_
        refine AO.yldG _ (Yld.load Tryd.isAgg2 rfl rfl) rfl rfl rfl rfl rfl ?_
        refine AO.yldG _ (Yld.move rfl) rfl rfl rfl rfl rfl ?_
        refine AO.yldG _ (Yld.call rfl rfl Tryd.call97 rfl rfl rfl (spec_l00In_c) rfl) rfl rfl rfl rfl rfl ?_
        refine AO.yldG _ (Yld.not rfl) rfl rfl rfl rfl rfl ?_
        refine AO.yld _ (Yld.pickF rfl rfl) rfl rfl rfl ?_
        refine AO.yld _ (Yld.move rfl) rfl rfl rfl ?_
        refine AO.splitAt 27 _ rfl (fun s27 => ?_) (fun s27 => ?_)
        · -- s27 True
          refine AO.skipF rfl rfl rfl rfl rfl ?_
          refine AO.skipF rfl rfl rfl rfl rfl ?_
          refine AO.skipF rfl rfl rfl rfl rfl ?_
          refine AO.skipF rfl rfl rfl rfl rfl ?_
          refine AO.yld _ (Yld.pickT rfl rfl) rfl rfl rfl ?_
          refine AO.yld _ (Yld.move rfl) rfl rfl rfl ?_
          refine AO.skipF rfl rfl rfl rfl rfl ?_
          refine AO.skipF rfl rfl rfl rfl rfl ?_
          refine AO.skipF rfl rfl rfl rfl rfl ?_
          refine AO.skipF rfl rfl rfl rfl rfl ?_
          refine AO.yld _ (Yld.pickT rfl rfl) rfl rfl rfl ?_
          refine AO.nil ?_
          refine AC.condT rfl ?_
          refine AC.seq ?_
          refine AC.region ?_
          refine AO.yld _ (Yld.assign rfl) rfl rfl rfl ?_
          refine AO.nil ?_
          refine Pure.ret Tryd.results105 (RVs.cons (RV.tmp rfl) RVs.nil) rfl ?_
          first
            | (refine cb ?_; rw [okVers, allI_miss hx (by simp only [okVer]; first | grind | (simp_all; done)), Bool.false_and])
            | (refine cb ?_; rw [okVers, allI_take hJ.2, Bool.true_and, hM]; exact decide_eq_decide.2 (by omega))
        · -- s27 False
          refine AO.yldG _ (Yld.fieldAddr Tryd.underlying74 rfl rfl Tryd.sizeOf9 rfl rfl rfl) rfl rfl rfl rfl rfl ?_
          refine AO.yldG _ (Yld.load Tryd.isAgg9 rfl rfl) rfl rfl rfl rfl rfl ?_
          refine AO.yldG _ (Yld.call rfl rfl Tryd.call98 rfl rfl rfl (spec_l27Memo_c (by first | assumption | omega)) rfl) rfl rfl rfl rfl rfl ?_
          refine AO.yldG _ (Yld.not rfl) rfl rfl rfl rfl rfl ?_
          refine AO.yld _ (Yld.pickF rfl rfl) rfl rfl rfl ?_
          refine AO.yld _ (Yld.move rfl) rfl rfl rfl ?_
          refine AO.splitAt 33 _ rfl (fun s33 => ?_) (fun s33 => ?_)
          · -- s33 True
            refine AO.skipF rfl rfl rfl rfl rfl ?_
            refine AO.skipF rfl rfl rfl rfl rfl ?_
            refine AO.skipF rfl rfl rfl rfl rfl ?_
            refine AO.skipF rfl rfl rfl rfl rfl ?_
            refine AO.yld _ (Yld.pickT rfl rfl) rfl rfl rfl ?_
            refine AO.nil ?_
            refine AC.condT rfl ?_
            refine AC.seq ?_
            refine AC.region ?_
            refine AO.yld _ (Yld.assign rfl) rfl rfl rfl ?_
            refine AO.nil ?_
            refine Pure.ret Tryd.results105 (RVs.cons (RV.tmp rfl) RVs.nil) rfl ?_
            first
              | (refine cb ?_; rw [okVers, allI_miss hx (by simp only [okVer]; first | grind | (simp_all; done)), Bool.false_and])
              | (refine cb ?_; rw [okVers, allI_take hJ.2, Bool.true_and, hM]; exact decide_eq_decide.2 (by omega))
          · -- s33 False
            refine AO.yldG _ (Yld.fieldAddr Tryd.underlying74 rfl rfl Tryd.sizeOf72 rfl rfl rfl) rfl rfl rfl rfl rfl ?_
            refine AO.yldG _ (Yld.load Tryd.isAgg72 rfl rfl) rfl rfl rfl rfl rfl ?_
            refine AO.yldG _ (Yld.call rfl rfl Tryd.call99 rfl rfl rfl (spec_l27State_c (by first | assumption | omega) (by assumption)) rfl) rfl rfl rfl rfl rfl ?_
            refine AO.yldG _ (Yld.not rfl) rfl rfl rfl rfl rfl ?_
            refine AO.yld _ (Yld.pickF rfl rfl) rfl rfl rfl ?_
            refine AO.nil ?_
            refine AC.cond _ rfl (fun c38 => ?_) (fun c38 => ?_)
            · -- c38 True
              refine AC.seq ?_
              refine AC.region ?_
              refine AO.yld _ (Yld.assign rfl) rfl rfl rfl ?_
              refine AO.nil ?_
              refine Pure.ret Tryd.results105 (RVs.cons (RV.tmp rfl) RVs.nil) rfl ?_
              first
                | (refine cb ?_; rw [okVers, allI_miss hx (by simp only [okVer]; first | grind | (simp_all; done)), Bool.false_and])
                | (refine cb ?_; rw [okVers, allI_take hJ.2, Bool.true_and, hM]; exact decide_eq_decide.2 (by omega))
            · -- c38 False
              refine AC.skip ?_
              refine AC.mark ?_
              refine AC.region ?_
              refine AO.yld _ (Yld.move rfl) rfl rfl rfl ?_
              refine AO.yld _ (Yld.add rfl rfl (by omega) (by omega)) rfl rfl rfl ?_
              refine AO.yld _ (Yld.assign rfl) rfl rfl rfl ?_
              refine AO.nil ?_
              refine AC.back ⟨k + 1, ?_, ?_, ⟨?_, trivial⟩, trivial, ⟨rfl, trivial⟩, trivial⟩
              · exact ⟨hk, by rw [allITo_succ hx, hJ.2, Bool.true_and]; exact (by simp only [okVer]; first | grind | (simp_all; done))⟩
              · omega
              · rfl
    · -- c8 False
      obtain rfl : k = xs.length := by have := ge_of_decM c8; omega
      refine AC.exit rfl ?_
      refine AC.seq ?_
      refine AC.region ?_
      refine AO.yld _ (Yld.move rfl) rfl rfl rfl ?_
      refine AO.yld _ (Yld.len Tryd.underlying80 rfl rfl) rfl rfl rfl ?_
      refine AO.yld _ (Yld.int rfl rfl rfl) rfl rfl rfl ?_
      refine AO.yld _ (Yld.assign rfl) rfl rfl rfl ?_
      refine AO.nil ?_
      refine Pure.ret Tryd.results105 (RVs.cons (RV.tmp rfl) RVs.nil) rfl ?_
      first
        | (refine cb ?_; rw [okVers, allI_miss hx (by simp only [okVer]; first | grind | (simp_all; done)), Bool.false_and])
        | (refine cb ?_; rw [okVers, allI_take hJ.2, Bool.true_and, hM]; exact decide_eq_decide.2 (by omega))

theorem impl_ValidHistory_c {xs : List Ver} (hg : VersGood xs) :
    Pure Tryd.prog 109 [.sl 4 (xs.map encVer)] (.v (.bool (okVers xs))) := by
  have hn := hg.1
  have hM : (xs.map encVer).length = xs.length := List.length_map ..
  refine Pure.intro Tryd.func109 rfl Tryd.ntmps109 rfl rfl (fun w => ?_)
  refine AC.seq ?_
  refine AC.region ?_
  refine AO.yld _ (Yld.assign rfl) rfl rfl rfl ?_
  refine AO.nil ?_
  refine AC.seq ?_
  refine AC.seq ?_
  refine AC.region ?_
  refine AO.yld _ (Yld.move rfl) rfl rfl rfl ?_
  refine AO.yld _ (Yld.len Tryd.underlying80 rfl rfl) rfl rfl rfl ?_
  refine AO.yld _ (Yld.int rfl rfl rfl) rfl rfl rfl ?_
  refine AO.nil ?_
  refine AC.cond _ rfl (fun c7 => ?_) (fun c7 => ?_)
  · -- c7 True
    refine AC.seq ?_
    refine AC.region ?_
    refine AO.yld _ (Yld.assign rfl) rfl rfl rfl ?_
    refine AO.nil ?_
    refine Pure.ret Tryd.results109 (RVs.cons (RV.tmp rfl) RVs.nil) rfl ?_
    first
      | (refine cb ?_; rw [okVers, allI_miss hx (by simp only [okVer]; first | grind | (simp_all; done)), Bool.false_and])
      | (refine cb ?_; rw [hM] at c7; rw [okVers, lenN (K := 32) rfl c7]; simp; done)
      | (refine cb ?_; rw [hM] at c7; rw [okVers, lenN (K := 32) rfl c7, allI_take hJ.2]; rfl)
  · -- c7 False
    refine AC.skip ?_
    refine AC.seq ?_
    refine AC.seq ?_
    refine AC.region ?_
    refine AO.yld _ (Yld.move rfl) rfl rfl rfl ?_
    refine AO.yld _ (Yld.len Tryd.underlying80 rfl rfl) rfl rfl rfl ?_
    refine AO.yld _ (Yld.move rfl) rfl rfl rfl ?_
    refine AO.nil ?_
    refine AC.block ?_
    refine AC.loopC [(8, _), (9, _)] [] (fun (k : Nat) => [(10, .p (.v (.int .i64 (k : Int))))]) (fun (k : Nat) => []) (fun (k : Nat) => k ≤ xs.length ∧ allITo okVer xs k = true) (fun (k : Nat) => xs.length - k) 0 ⟨rfl, rfl, trivial⟩ trivial ⟨rfl, trivial⟩ trivial ?_ (fun k hJ => ?_)
    · exact ⟨Nat.zero_le _, rfl⟩
    · -- round
      refine AC.seq ?_
      refine AC.region ?_
      refine AO.yld _ (Yld.int rfl rfl rfl) rfl rfl rfl ?_
      refine AO.nil ?_
      refine AC.seq ?_
      refine AC.cond _ rfl (fun c11 => ?_) (fun c11 => ?_)
      · -- c11 True
        have hk := lt_of_decM c11
        obtain ⟨x, hx⟩ := get_some hk
        have hrow := map_row (enc := encVer) hx
        obtain ⟨g1, g2, g3⟩ := hg.2 x (List.mem_of_getElem? hx)
        refine AC.skip ?_
        refine AC.seq ?_
        refine AC.block ?_
        refine AC.seq ?_
        refine AC.region ?_
        refine AO.yld _ (Yld.move rfl) rfl rfl rfl ?_
        refine AO.yld _ (Yld.indexSl Tryd.underlying80 Tryd.sizeOf74 rfl rfl hrow rfl) rfl rfl rfl ?_
        refine AO.yld _ (Yld.loadAgg Tryd.isAgg74 Tryd.sizeOf74 rfl rfl rfl rfl) rfl rfl rfl ?_
        refine AO.alloc 0 Tryd.zeroValue74 rfl rfl rfl ?_
        refine AO.yld _ (Yld.assign rfl) rfl rfl rfl ?_
        refine AO.store Tryd.sizeOf74 rfl rfl rfl rfl rfl rfl ?_
        refine AO.nil ?_
        refine AC.seq ?_
        refine AC.region ?_
        refine AO.yld _ (Yld.fieldAddr Tryd.underlying74 rfl rfl Tryd.sizeOf2 rfl rfl rfl) rfl rfl rfl ?_
        refine AO.yld _ (Yld.load Tryd.isAgg2 rfl rfl) rfl rfl rfl ?_
        refine AO.yld _ (Yld.move rfl) rfl rfl rfl ?_
        refine AO.yld _ (Yld.add rfl rfl (by omega) (by omega)) rfl rfl rfl ?_
        refine AO.yld _ (Yld.int rfl rfl rfl) rfl rfl rfl ?_
        refine AO.yld _ (Yld.move rfl) rfl rfl rfl ?_
        refine AO.splitAt 20 _ rfl (fun s20 => ?_) (fun s20 => ?_)
        · -- s20 True
          refine AO.skipF rfl rfl rfl rfl rfl ?_
          refine AO.skipF rfl rfl rfl rfl rfl ?_
          refine AO.skipF rfl rfl rfl rfl rfl ?_
          refine AO.skipF rfl rfl rfl rfl rfl ?_
          refine AO.skipF rfl rfl rfl rfl rfl ?_
          refine AO.yld _ (Yld.pickT rfl rfl) rfl rfl rfl ?_
          refine AO.yld _ (Yld.move rfl) rfl rfl rfl ?_
          refine AO.skipF rfl rfl rfl rfl rfl ?_
          refine AO.skipF rfl rfl rfl rfl rfl ?_
          refine AO.skipF rfl rfl rfl rfl rfl ?_
          refine AO.skipF rfl rfl rfl rfl rfl ?_
          refine AO.yld _ (Yld.pickT rfl rfl) rfl rfl rfl ?_
          refine AO.yld _ (Yld.move rfl) rfl rfl rfl ?_
          refine AO.skipF rfl rfl rfl rfl rfl ?_
          refine AO.skipF rfl rfl rfl rfl rfl ?_
          refine AO.skipF rfl rfl rfl rfl rfl ?_
          refine AO.skipF rfl rfl rfl rfl rfl ?_
          refine AO.yld _ (Yld.pickT rfl rfl) rfl rfl rfl ?_
          refine AO.nil ?_
          refine AC.condT rfl ?_
          refine AC.seq ?_
          refine AC.region ?_
          refine AO.yld _ (Yld.assign rfl) rfl rfl rfl ?_
          refine AO.nil ?_
          refine Pure.ret Tryd.results109 (RVs.cons (RV.tmp rfl) RVs.nil) rfl ?_
          first
            | (refine cb ?_; rw [okVers, allI_miss hx (by simp only [okVer]; first | grind | (simp_all; done)), Bool.false_and])
            | (refine cb ?_; rw [hM] at c7; rw [okVers, lenN (K := 32) rfl c7]; simp; done)
            | (refine cb ?_; rw [hM] at c7; rw [okVers, lenN (K := 32) rfl c7, allI_take hJ.2]; rfl)
        · -- s20 False
          refine AO.yldG _ (Yld.fieldAddr Tryd.underlying74 rfl rfl Tryd.sizeOf2 rfl rfl rfl) rfl rfl rfl rfl rfl ?_
          refine AO.yldG _ (Yld.load Tryd.isAgg2 rfl rfl) rfl rfl rfl rfl rfl ?_
          refine AO.yldG _ (Yld.move rfl) rfl rfl rfl rfl rfl ?_
          refine AO.yldG _ (Yld.call rfl rfl Tryd.call80 rfl rfl rfl (impl_within_c) rfl) rfl rfl rfl rfl rfl ?_
          refine AO.yldG _ (Yld.not rfl) rfl rfl rfl rfl rfl ?_
          refine AO.yld _ (Yld.pickF rfl rfl) rfl rfl rfl ?_
          refine AO.yld _ (Yld.move rfl) rfl rfl rfl ?_
          refine AO.splitAt 27 _ rfl (fun s27 => ?_) (fun s27 => ?_)
          · -- s27 True
            refine AO.skipF rfl rfl rfl rfl rfl ?_
            refine AO.skipF rfl rfl rfl rfl rfl ?_
            refine AO.skipF rfl rfl rfl rfl rfl ?_
            refine AO.skipF rfl rfl rfl rfl rfl ?_
            refine AO.yld _ (Yld.pickT rfl rfl) rfl rfl rfl ?_
            refine AO.yld _ (Yld.move rfl) rfl rfl rfl ?_
            refine AO.skipF rfl rfl rfl rfl rfl ?_
            refine AO.skipF rfl rfl rfl rfl rfl ?_
            refine AO.skipF rfl rfl rfl rfl rfl ?_
            refine AO.skipF rfl rfl rfl rfl rfl ?_
            refine AO.yld _ (Yld.pickT rfl rfl) rfl rfl rfl ?_
            refine AO.nil ?_
            refine AC.condT rfl ?_
            refine AC.seq ?_
            refine AC.region ?_
            refine AO.yld _ (Yld.assign rfl) rfl rfl rfl ?_
            refine AO.nil ?_
            refine Pure.ret Tryd.results109 (RVs.cons (RV.tmp rfl) RVs.nil) rfl ?_
            first
              | (refine cb ?_; rw [okVers, allI_miss hx (by simp only [okVer]; first | grind | (simp_all; done)), Bool.false_and])
              | (refine cb ?_; rw [hM] at c7; rw [okVers, lenN (K := 32) rfl c7]; simp; done)
              | (refine cb ?_; rw [hM] at c7; rw [okVers, lenN (K := 32) rfl c7, allI_take hJ.2]; rfl)
          · -- s27 False
            refine AO.yldG _ (Yld.fieldAddr Tryd.underlying74 rfl rfl Tryd.sizeOf9 rfl rfl rfl) rfl rfl rfl rfl rfl ?_
            refine AO.yldG _ (Yld.load Tryd.isAgg9 rfl rfl) rfl rfl rfl rfl rfl ?_
            refine AO.yldG _ (Yld.call rfl rfl Tryd.call102 rfl rfl rfl (impl_validMemo_c (by first | assumption | omega)) rfl) rfl rfl rfl rfl rfl ?_
            refine AO.yldG _ (Yld.not rfl) rfl rfl rfl rfl rfl ?_
            refine AO.yld _ (Yld.pickF rfl rfl) rfl rfl rfl ?_
            refine AO.yld _ (Yld.move rfl) rfl rfl rfl ?_
            refine AO.splitAt 33 _ rfl (fun s33 => ?_) (fun s33 => ?_)
            · -- s33 True
              refine AO.skipF rfl rfl rfl rfl rfl ?_
              refine AO.skipF rfl rfl rfl rfl rfl ?_
              refine AO.skipF rfl rfl rfl rfl rfl ?_
              refine AO.skipF rfl rfl rfl rfl rfl ?_
              refine AO.yld _ (Yld.pickT rfl rfl) rfl rfl rfl ?_
              refine AO.nil ?_
              refine AC.condT rfl ?_
              refine AC.seq ?_
              refine AC.region ?_
              refine AO.yld _ (Yld.assign rfl) rfl rfl rfl ?_
              refine AO.nil ?_
              refine Pure.ret Tryd.results109 (RVs.cons (RV.tmp rfl) RVs.nil) rfl ?_
              first
                | (refine cb ?_; rw [okVers, allI_miss hx (by simp only [okVer]; first | grind | (simp_all; done)), Bool.false_and])
                | (refine cb ?_; rw [hM] at c7; rw [okVers, lenN (K := 32) rfl c7]; simp; done)
                | (refine cb ?_; rw [hM] at c7; rw [okVers, lenN (K := 32) rfl c7, allI_take hJ.2]; rfl)
            · -- s33 False
              refine AO.yldG _ (Yld.fieldAddr Tryd.underlying74 rfl rfl Tryd.sizeOf72 rfl rfl rfl) rfl rfl rfl rfl rfl ?_
              refine AO.yldG _ (Yld.load Tryd.isAgg72 rfl rfl) rfl rfl rfl rfl rfl ?_
              refine AO.yldG _ (Yld.call rfl rfl Tryd.call103 rfl rfl rfl (impl_ValidState_c (by first | assumption | omega) (by assumption)) rfl) rfl rfl rfl rfl rfl ?_
              refine AO.yldG _ (Yld.not rfl) rfl rfl rfl rfl rfl ?_
              refine AO.yld _ (Yld.pickF rfl rfl) rfl rfl rfl ?_
              refine AO.nil ?_
              refine AC.cond _ rfl (fun c38 => ?_) (fun c38 => ?_)
              · -- c38 True
                refine AC.seq ?_
                refine AC.region ?_
                refine AO.yld _ (Yld.assign rfl) rfl rfl rfl ?_
                refine AO.nil ?_
                refine Pure.ret Tryd.results109 (RVs.cons (RV.tmp rfl) RVs.nil) rfl ?_
                first
                  | (refine cb ?_; rw [okVers, allI_miss hx (by simp only [okVer]; first | grind | (simp_all; done)), Bool.false_and])
                  | (refine cb ?_; rw [hM] at c7; rw [okVers, lenN (K := 32) rfl c7]; simp; done)
                  | (refine cb ?_; rw [hM] at c7; rw [okVers, lenN (K := 32) rfl c7, allI_take hJ.2]; rfl)
              · -- c38 False
                refine AC.skip ?_
                refine AC.mark ?_
                refine AC.region ?_
                refine AO.yld _ (Yld.add rfl rfl (by omega) (by omega)) rfl rfl rfl ?_
                refine AO.yld _ (Yld.move rfl) rfl rfl rfl ?_
                refine AO.nil ?_
                refine AC.back ⟨k + 1, ?_, ?_, ⟨?_, trivial⟩, trivial, ⟨rfl, rfl, trivial⟩, trivial⟩
                · exact ⟨hk, by rw [allITo_succ hx, hJ.2, Bool.true_and]; exact (by simp only [okVer]; first | grind | (simp_all; done))⟩
                · omega
                · rfl
      · -- c11 False
        obtain rfl : k = xs.length := by have := ge_of_decM c11; omega
        refine AC.exit rfl ?_
        refine AC.seq ?_
        refine AC.region ?_
        refine AO.yld _ (Yld.assign rfl) rfl rfl rfl ?_
        refine AO.nil ?_
        refine Pure.ret Tryd.results109 (RVs.cons (RV.tmp rfl) RVs.nil) rfl ?_
        first
          | (refine cb ?_; rw [okVers, allI_miss hx (by simp only [okVer]; first | grind | (simp_all; done)), Bool.false_and])
          | (refine cb ?_; rw [hM] at c7; rw [okVers, lenN (K := 32) rfl c7]; simp; done)
          | (refine cb ?_; rw [hM] at c7; rw [okVers, lenN (K := 32) rfl c7, allI_take hJ.2]; rfl)

theorem spec_ValidHistory_c {xs : List Ver} (hg : VersGood xs) :
    Pure Tryd.prog 68 [.sl 4 (xs.map encVer)] (.v (.bool (okVers xs))) := by
  refine Pure.intro Tryd.func68 rfl Tryd.ntmps68 rfl rfl (fun w => ?_)
  refine AC.seq ?_
  refine AC.region ?_
  refine AO.yld _ (Yld.assign rfl) rfl rfl rfl ?_
  refine AO.nil ?_
  refine AC.seq ?_
  refine AC.region ?_
  refine AO.yld _ (Yld.move rfl) rfl rfl rfl ?_
  refine AO.yld _ (Yld.call rfl rfl Tryd.call105 rfl rfl rfl (spec_l27Ok_c (by assumption)) rfl) rfl rfl rfl ?_
  refine AO.yld _ (Yld.assign rfl) rfl rfl rfl ?_
  refine AO.nil ?_
  refine Pure.ret Tryd.results68 (RVs.cons (RV.tmp rfl) RVs.nil) rfl ?_
  first | rfl | (simp_all; done) | (simp_all; intros; omega) | grind

theorem spec_l27At_c {xs : List NV} {n : List UInt8} (hn : xs.length ≤ 1048576) :
    Pure Tryd.prog 167 [.sl 2 (xs.map encNV), .v (str n)] (.v (.int .i64 (idxOf (nameIs n) xs))) := by
  refine Pure.intro Tryd.func167 rfl Tryd.ntmps167 rfl rfl (fun w => ?_)
  refine AC.seq ?_
  refine AC.region ?_
  refine AO.yld _ (Yld.assign rfl) rfl rfl rfl ?_
  refine AO.nil ?_
  refine AC.seq ?_
  refine AC.seq ?_
  refine AC.region ?_
  refine AO.yld _ (Yld.assign rfl) rfl rfl rfl ?_
  refine AO.nil ?_
  refine AC.block ?_
  refine AC.loopC [(0, _), (1, _)] [] (fun (k : Nat) => [(5, .p (.v (.int .i64 (k : Int))))]) (fun (k : Nat) => []) (fun (k : Nat) => k ≤ xs.length ∧ anyTo (nameIs n) xs k = false) (fun (k : Nat) => xs.length - k) 0 ⟨rfl, rfl, trivial⟩ trivial ⟨rfl, trivial⟩ trivial ?_ (fun k hJ => ?_)
  · exact ⟨Nat.zero_le _, rfl⟩
  · -- round
    refine AC.seq ?_
    refine AC.seq ?_
    refine AC.region ?_
    refine AO.yld _ (Yld.move rfl) rfl rfl rfl ?_
    refine AO.yld _ (Yld.move rfl) rfl rfl rfl ?_
    refine AO.yld _ (Yld.len Tryd.underlying72 rfl rfl) rfl rfl rfl ?_
    refine AO.yld _ (Yld.int rfl rfl rfl) rfl rfl rfl ?_
    refine AO.nil ?_
    refine AC.cond _ rfl (fun c9 => ?_) (fun c9 => ?_)
    · -- c9 True
      have hk := lt_of_decM c9
      obtain ⟨x, hx⟩ := get_some hk
      have hrow := map_row (enc := encNV) hx
      refine AC.skip ?_
      refine AC.seq ?_
      refine AC.block ?_
      refine AC.seq ?_
      refine AC.region ?_
      refine AO.yld _ (Yld.move rfl) rfl rfl rfl ?_
      refine AO.yld _ (Yld.move rfl) rfl rfl rfl ?_
      refine AO.yld _ (Yld.indexSl Tryd.underlying72 Tryd.sizeOf146 rfl rfl hrow rfl) rfl rfl rfl ?_
      refine AO.yld _ (Yld.fieldAddr Tryd.underlying146 rfl rfl Tryd.sizeOf9 rfl rfl rfl) rfl rfl rfl ?_
      refine AO.yld _ (Yld.load Tryd.isAgg9 rfl rfl) rfl rfl rfl ?_
      refine AO.yld _ (Yld.move rfl) rfl rfl rfl ?_
      refine AO.yld _ (Yld.cmpStr rfl rfl rfl) rfl rfl rfl ?_
      refine AO.nil ?_
      refine AC.cond _ rfl (fun c18 => ?_) (fun c18 => ?_)
      · -- c18 True
        refine AC.seq ?_
        refine AC.region ?_
        refine AO.yld _ (Yld.move rfl) rfl rfl rfl ?_
        refine AO.yld _ (Yld.assign rfl) rfl rfl rfl ?_
        refine AO.nil ?_
        refine Pure.ret Tryd.results167 (RVs.cons (RV.tmp rfl) RVs.nil) rfl ?_
        first
          | exact ci (idx_hit hJ.2 hx (by simpa [nameIs] using c18)).symm
          | exact ci (idx_hit hJ.2 hx (by simpa [nameIs] using c18))
          | exact ci (idx_miss hJ.2).symm
          | exact ci (idx_miss hJ.2)
      · -- c18 False
        refine AC.skip ?_
        refine AC.mark ?_
        refine AC.region ?_
        refine AO.yld _ (Yld.move rfl) rfl rfl rfl ?_
        refine AO.yld _ (Yld.add rfl rfl (by omega) (by omega)) rfl rfl rfl ?_
        refine AO.yld _ (Yld.assign rfl) rfl rfl rfl ?_
        refine AO.nil ?_
        refine AC.back ⟨k + 1, ?_, ?_, ⟨?_, trivial⟩, trivial, ⟨rfl, rfl, trivial⟩, trivial⟩
        · exact ⟨hk, by rw [anyTo_succ hx, hJ.2]; simpa [nameIs] using c18⟩
        · omega
        · rfl
    · -- c9 False
      obtain rfl : k = xs.length := by have := ge_of_decM c9; omega
      refine AC.exit rfl ?_
      refine AC.seq ?_
      refine AC.region ?_
      refine AO.yld _ (Yld.assign rfl) rfl rfl rfl ?_
      refine AO.nil ?_
      refine Pure.ret Tryd.results167 (RVs.cons (RV.tmp rfl) RVs.nil) rfl ?_
      first
        | exact ci (idx_hit hJ.2 hx (by simpa [nameIs] using c18)).symm
        | exact ci (idx_hit hJ.2 hx (by simpa [nameIs] using c18))
        | exact ci (idx_miss hJ.2).symm
        | exact ci (idx_miss hJ.2)

theorem indexFuncSetting_c {xs : List NV} {f : FuncId} {caps : List PV} {p : NV → Bool} (hn : xs.length ≤ 1048576) (hf : Enters Tryd.prog f) (hp : ∀ x ∈ xs, Pure Tryd.prog f (.agg (encNV x) :: caps) (.v (.bool (p x)))) :
    Pure Tryd.prog 169 [.sl 2 (xs.map encNV), .clo f caps] (.v (.int .i64 (idxOf p xs))) := by
  refine Pure.intro Tryd.func169 rfl Tryd.ntmps169 rfl rfl (fun w => ?_)
  refine AC.seq ?_
  refine AC.region ?_
  refine AO.yld _ (Yld.assign rfl) rfl rfl rfl ?_
  refine AO.nil ?_
  refine AC.seq ?_
  refine AC.seq ?_
  refine AC.region ?_
  refine AO.yld _ (Yld.move rfl) rfl rfl rfl ?_
  refine AO.yld _ (Yld.len Tryd.underlying72 rfl rfl) rfl rfl rfl ?_
  refine AO.yld _ (Yld.move rfl) rfl rfl rfl ?_
  refine AO.nil ?_
  refine AC.block ?_
  refine AC.loopC [(0, _), (1, _), (7, _)] [] (fun (k : Nat) => [(8, .p (.v (.int .i64 (k : Int))))]) (fun (k : Nat) => []) (fun (k : Nat) => k ≤ xs.length ∧ anyTo p xs k = false) (fun (k : Nat) => xs.length - k) 0 ⟨rfl, rfl, rfl, trivial⟩ trivial ⟨rfl, trivial⟩ trivial ?_ (fun k hJ => ?_)
  · exact ⟨Nat.zero_le _, rfl⟩
  · -- round
    refine AC.seq ?_
    refine AC.region ?_
    refine AO.yld _ (Yld.int rfl rfl rfl) rfl rfl rfl ?_
    refine AO.nil ?_
    refine AC.seq ?_
    refine AC.cond _ rfl (fun c9 => ?_) (fun c9 => ?_)
    · -- c9 True
      have hk := lt_of_decM c9
      obtain ⟨x, hx⟩ := get_some hk
      have hrow := map_row (enc := encNV) hx
      refine AC.skip ?_
      refine AC.seq ?_
      refine AC.block ?_
      refine AC.seq ?_
      refine AC.region ?_
      refine AO.yld _ (Yld.move rfl) rfl rfl rfl ?_
      refine AO.yld _ (Yld.assign rfl) rfl rfl rfl ?_
      refine AO.nil ?_
      refine AC.seq ?_
      refine AC.region ?_
      refine AO.yld _ (Yld.move rfl) rfl rfl rfl ?_
      refine AO.yld _ (Yld.move rfl) rfl rfl rfl ?_
      refine AO.yld _ (Yld.move rfl) rfl rfl rfl ?_
      refine AO.yld _ (Yld.indexSl Tryd.underlying72 Tryd.sizeOf146 rfl rfl hrow rfl) rfl rfl rfl ?_
      refine AO.yld _ (Yld.loadAgg Tryd.isAgg146 Tryd.sizeOf146 rfl rfl rfl rfl) rfl rfl rfl ?_
      refine AO.yld _ (Yld.call rfl rfl hf rfl rfl (viewL_p _) (hp x (List.mem_of_getElem? hx)) rfl) rfl rfl rfl ?_
      refine AO.nil ?_
      refine AC.cond _ rfl (fun c16 => ?_) (fun c16 => ?_)
      · -- c16 True
        refine AC.seq ?_
        refine AC.region ?_
        refine AO.yld _ (Yld.move rfl) rfl rfl rfl ?_
        refine AO.yld _ (Yld.assign rfl) rfl rfl rfl ?_
        refine AO.nil ?_
        refine Pure.ret Tryd.results169 (RVs.cons (RV.tmp rfl) RVs.nil) rfl ?_
        first
          | exact ci (idx_hit hJ.2 hx (by simpa using c16))
          | exact ci (idx_miss hJ.2)
      · -- c16 False
        refine AC.skip ?_
        refine AC.mark ?_
        refine AC.region ?_
        refine AO.yld _ (Yld.add rfl rfl (by omega) (by omega)) rfl rfl rfl ?_
        refine AO.yld _ (Yld.move rfl) rfl rfl rfl ?_
        refine AO.nil ?_
        refine AC.back ⟨k + 1, ?_, ?_, ⟨?_, trivial⟩, trivial, ⟨rfl, rfl, rfl, trivial⟩, trivial⟩
        · exact ⟨hk, by rw [anyTo_succ hx, hJ.2]; simpa using c16⟩
        · omega
        · rfl
    · -- c9 False
      obtain rfl : k = xs.length := by have := ge_of_decM c9; omega
      refine AC.exit rfl ?_
      refine AC.seq ?_
      refine AC.region ?_
      refine AO.yld _ (Yld.assign rfl) rfl rfl rfl ?_
      refine AO.nil ?_
      refine Pure.ret Tryd.results169 (RVs.cons (RV.tmp rfl) RVs.nil) rfl ?_
      first
        | exact ci (idx_hit hJ.2 hx (by simpa using c16))
        | exact ci (idx_miss hJ.2)

theorem settingIndex1_c {x : NV} {n : List UInt8} :
    Pure Tryd.prog 170 [.agg (encNV x), .ptr [.v (str n)]] (.v (.bool (nameIs n x))) := by
  refine Pure.intro Tryd.func170 rfl Tryd.ntmps170 rfl rfl (fun w => ?_)
  refine AC.seq ?_
  refine AC.region ?_
  refine AO.box 0 rfl rfl rfl rfl rfl ?_
  refine AO.yld _ (Yld.assign rfl) rfl rfl rfl ?_
  refine AO.nil ?_
  refine AC.seq ?_
  refine AC.region ?_
  refine AO.yld _ (Yld.fieldAddr Tryd.underlying146 rfl rfl Tryd.sizeOf9 rfl rfl rfl) rfl rfl rfl ?_
  refine AO.yld _ (Yld.load Tryd.isAgg9 rfl rfl) rfl rfl rfl ?_
  refine AO.yld _ (Yld.load Tryd.isAgg9 rfl rfl) rfl rfl rfl ?_
  refine AO.yld _ (Yld.cmpStr rfl rfl rfl) rfl rfl rfl ?_
  refine AO.yld _ (Yld.assign rfl) rfl rfl rfl ?_
  refine AO.nil ?_
  refine Pure.ret Tryd.results170 (RVs.cons (RV.tmp rfl) RVs.nil) rfl ?_
  refine cb ?_; unfold nameIs; by_cases h : x.name = n <;> simp [h]

theorem impl_settingIndex_c {xs : List NV} {n : List UInt8} (hn : xs.length ≤ 1048576) :
    Pure Tryd.prog 126 [.sl 2 (xs.map encNV), .v (str n)] (.v (.int .i64 (idxOf (nameIs n) xs))) := by
  refine Pure.intro Tryd.func126 rfl Tryd.ntmps126 rfl rfl (fun w => ?_)
  refine AC.seq ?_
  refine AC.region ?_
  refine AO.box 0 rfl rfl rfl rfl rfl ?_
  refine AO.yld _ (Yld.assign rfl) rfl rfl rfl ?_
  refine AO.nil ?_
  refine AC.seq ?_
  refine AC.region ?_
  refine AO.yld _ (Yld.move rfl) rfl rfl rfl ?_
  refine AO.yld _ (Yld.makeFunc rfl) rfl rfl rfl ?_
  refine AO.yld _ (Yld.call rfl rfl Tryd.call169 rfl rfl rfl (indexFuncSetting_c (p := nameIs n) (by omega) Tryd.call170 (fun x hx => settingIndex1_c)) rfl) rfl rfl rfl ?_
  refine AO.yld _ (Yld.assign rfl) rfl rfl rfl ?_
  refine AO.nil ?_
  refine Pure.ret Tryd.results126 (RVs.cons (RV.tmp rfl) RVs.nil) rfl ?_
  rfl

theorem eqsSetting {x y : NV} {X Y : Operand} (w : World) : (do eqGuard .eql 146 X Y (.agg [str x.name, .int .i64 x.val].toArray) (.agg [str y.name, .int .i64 y.val].toArray); binOp .eql 146 (.agg [str x.name, .int .i64 x.val].toArray) (.agg [str y.name, .int .i64 y.val].toArray) : Sem Value).run Tryd.prog w = .ok (.bool (decide (x = y))) w := by
  have g1 : Tryd.prog.eqGuardType Tryd.prog.depth 146 = false := by kernel_rfl
  have g2 : Tryd.prog.stoodInHeld 146 = false := by kernel_rfl
  have g3 : Tryd.prog.underlying 146 = some (.struct (Tryd.prog.fieldsOf 146)) := by kernel_rfl
  have g4 : (Tryd.prog.fieldsOf 146).toList = [⟨ "Name", 9, 0, false, "", "", 0⟩, ⟨ "Value", 2, 1, false, "", "", 16⟩] := by kernel_rfl
  rw [Sem.run_bind, run_eqGuard_agg _ _ _ _ _ _ _ g1, Result.andThen_ok, run_eql_struct, run_equalIn_struct _ _ _ _ _ g3 g2, g4]
  have e : decide (x = y) = (decide (x.name = y.name) && decide (x.val = y.val)) := by cases x; cases y; simp
  rw [e]
  clear g1 g2 g3 g4 e
  simp [Op.eqFields, go_sem, part, str, Tryd.sizeOf2, Tryd.isAgg2, Tryd.sizeOf9, Tryd.isAgg9, run_equalIn_int (h := Tryd.underlying2), run_equalIn_string (h := Tryd.underlying9)]
  by_cases h0 : x.name = y.name <;> by_cases h1 : x.val = y.val <;> simp_all

theorem indexSetting_c {xs : List NV} {y : NV} (hn : xs.length ≤ 1048576) :
    Pure Tryd.prog 171 [.sl 2 (xs.map encNV), .agg (encNV y)] (.v (.int .i64 (idxOf (fun x => decide (y = x)) xs))) := by
  refine Pure.intro Tryd.func171 rfl Tryd.ntmps171 rfl rfl (fun w => ?_)
  refine AC.seq ?_
  refine AC.region ?_
  refine AO.box 0 rfl rfl rfl rfl rfl ?_
  refine AO.yld _ (Yld.assign rfl) rfl rfl rfl ?_
  refine AO.nil ?_
  refine AC.seq ?_
  refine AC.seq ?_
  refine AC.region ?_
  refine AO.yld _ (Yld.move rfl) rfl rfl rfl ?_
  refine AO.yld _ (Yld.len Tryd.underlying72 rfl rfl) rfl rfl rfl ?_
  refine AO.yld _ (Yld.move rfl) rfl rfl rfl ?_
  refine AO.nil ?_
  refine AC.block ?_
  refine AC.loopC [(0, _), (3, _), (7, _)] [(0, _)] (fun (k : Nat) => [(8, .p (.v (.int .i64 (k : Int))))]) (fun (k : Nat) => []) (fun (k : Nat) => k ≤ xs.length ∧ anyTo (fun x => decide (y = x)) xs k = false) (fun (k : Nat) => xs.length - k) 0 ⟨rfl, rfl, rfl, trivial⟩ ⟨rfl, trivial⟩ ⟨rfl, trivial⟩ trivial ?_ (fun k hJ => ?_)
  · exact ⟨Nat.zero_le _, rfl⟩
  · -- round
    refine AC.seq ?_
    refine AC.region ?_
    refine AO.yld _ (Yld.int rfl rfl rfl) rfl rfl rfl ?_
    refine AO.nil ?_
    refine AC.seq ?_
    refine AC.cond _ rfl (fun c9 => ?_) (fun c9 => ?_)
    · -- c9 True
      have hk := lt_of_decM c9
      obtain ⟨x, hx⟩ := get_some hk
      have hrow := map_row (enc := encNV) hx
      refine AC.skip ?_
      refine AC.seq ?_
      refine AC.block ?_
      refine AC.seq ?_
      refine AC.region ?_
      refine AO.yld _ (Yld.move rfl) rfl rfl rfl ?_
      refine AO.yld _ (Yld.assign rfl) rfl rfl rfl ?_
      refine AO.nil ?_
      refine AC.seq ?_
      refine AC.draw (by kernel_rfl) (by kernel_rfl) ?_
      refine AO.yld _ (Yld.loadAgg Tryd.isAgg146 Tryd.sizeOf146 rfl rfl rfl rfl) rfl rfl rfl ?_
      refine AO.yld _ (Yld.move rfl) rfl rfl rfl ?_
      refine AO.yld _ (Yld.move rfl) rfl rfl rfl ?_
      refine AO.yld _ (Yld.indexSl Tryd.underlying72 Tryd.sizeOf146 rfl rfl hrow rfl) rfl rfl rfl ?_
      refine AO.yld _ (Yld.loadAgg Tryd.isAgg146 Tryd.sizeOf146 rfl rfl rfl rfl) rfl rfl rfl ?_
      refine AO.yld _ (Yld.binV rfl rfl rfl rfl rfl rfl (by exact eqsSetting)) rfl rfl rfl ?_
      refine AO.nil ?_
      refine AC.cond _ rfl (fun c16 => ?_) (fun c16 => ?_)
      · -- c16 True
        refine AC.seq ?_
        refine AC.region ?_
        refine AO.yld _ (Yld.move rfl) rfl rfl rfl ?_
        refine AO.yld _ (Yld.assign rfl) rfl rfl rfl ?_
        refine AO.nil ?_
        refine Pure.ret Tryd.results171 (RVs.cons (RV.tmp rfl) RVs.nil) rfl ?_
        first
          | exact ci (idx_hit hJ.2 hx (by simpa using c16))
          | exact ci (idx_miss hJ.2)
          | exact ci (idx_hit hJ.2 hx (by simpa using c16)).symm
          | exact ci (idx_miss hJ.2).symm
      · -- c16 False
        refine AC.skip ?_
        refine AC.mark ?_
        refine AC.region ?_
        refine AO.yld _ (Yld.add rfl rfl (by omega) (by omega)) rfl rfl rfl ?_
        refine AO.yld _ (Yld.move rfl) rfl rfl rfl ?_
        refine AO.nil ?_
        refine AC.back ⟨k + 1, ?_, ?_, ⟨?_, trivial⟩, trivial, ⟨rfl, rfl, rfl, trivial⟩, ⟨rfl, trivial⟩⟩
        · exact ⟨hk, by rw [anyTo_succ hx, hJ.2]; simpa using c16⟩
        · omega
        · rfl
    · -- c9 False
      obtain rfl : k = xs.length := by have := ge_of_decM c9; omega
      refine AC.exit rfl ?_
      refine AC.seq ?_
      refine AC.region ?_
      refine AO.yld _ (Yld.assign rfl) rfl rfl rfl ?_
      refine AO.nil ?_
      refine Pure.ret Tryd.results171 (RVs.cons (RV.tmp rfl) RVs.nil) rfl ?_
      first
        | exact ci (idx_hit hJ.2 hx (by simpa using c16))
        | exact ci (idx_miss hJ.2)
        | exact ci (idx_hit hJ.2 hx (by simpa using c16)).symm
        | exact ci (idx_miss hJ.2).symm

theorem containsSetting_c {xs : List NV} {y : NV} (hn : xs.length ≤ 1048576) :
    Pure Tryd.prog 127 [.sl 2 (xs.map encNV), .agg (encNV y)] (.v (.bool (decide (y ∈ xs)))) := by
  refine Pure.intro Tryd.func127 rfl Tryd.ntmps127 rfl rfl (fun w => ?_)
  refine AC.seq ?_
  refine AC.region ?_
  refine AO.box 0 rfl rfl rfl rfl rfl ?_
  refine AO.yld _ (Yld.assign rfl) rfl rfl rfl ?_
  refine AO.nil ?_
  refine AC.seq ?_
  refine AC.region ?_
  refine AO.yld _ (Yld.move rfl) rfl rfl rfl ?_
  refine AO.yld _ (Yld.loadAgg Tryd.isAgg146 Tryd.sizeOf146 rfl rfl rfl rfl) rfl rfl rfl ?_
  refine AO.yld _ (Yld.call rfl rfl Tryd.call171 rfl rfl rfl (indexSetting_c (by first | assumption | omega)) rfl) rfl rfl rfl ?_
  refine AO.yld _ (Yld.int rfl rfl rfl) rfl rfl rfl ?_
  refine AO.yld _ (Yld.assign rfl) rfl rfl rfl ?_
  refine AO.nil ?_
  refine Pure.ret Tryd.results127 (RVs.cons (RV.tmp rfl) RVs.nil) rfl ?_
  refine cb ?_; rw [idx_any]; simp [List.any_eq, eq_comm]

theorem impl_DiffStates_c {a b : List NV} (hna : a.length ≤ 1048576) (hsa : ∀ x ∈ a, x.name.length ≤ 1048576) (hnb : b.length ≤ 1048576) (hsb : ∀ x ∈ b, x.name.length ≤ 1048576) :
    FnE (α := Unit) Tryd.prog 59 [.p (.sl 2 (a.map encNV)), .p (.sl 2 (b.map encNV))] [] [] (fun _ => True) (fun _ => .tup [.h 0, .p (.v (.int .i64 (diffStates a b).2))]) (fun _ => [(0, .vec 164 3 ((diffStates a b).1.map encChg))]) := by
  refine FnE.intro Tryd.func59 rfl Tryd.ntmps59 rfl rfl (fun w0 F0 η φ w => ?_)
  refine AC.seq ?_
  refine AC.region ?_
  refine AO.yld _ (Yld.assign rfl) rfl rfl rfl ?_
  refine AO.yld _ (Yld.assign rfl) rfl rfl rfl ?_
  refine AO.nil ?_
  refine AC.seq ?_
  refine AC.seq ?_
  refine AC.region ?_
  refine AO.yld _ (Yld.move rfl) rfl rfl rfl ?_
  refine AO.yld _ (Yld.call rfl rfl Tryd.call103 rfl rfl rfl (impl_ValidState_c (by first | assumption | omega) (by assumption)) rfl) rfl rfl rfl ?_
  refine AO.yld _ (Yld.not rfl) rfl rfl rfl ?_
  refine AO.yld _ (Yld.move rfl) rfl rfl rfl ?_
  refine AO.splitAt 14 _ rfl (fun s14 => ?_) (fun s14 => ?_)
  · -- s14 True
    refine AO.skipF rfl rfl rfl rfl rfl ?_
    refine AO.skipF rfl rfl rfl rfl rfl ?_
    refine AO.skipF rfl rfl rfl rfl rfl ?_
    refine AO.yld _ (Yld.pickT rfl rfl) rfl rfl rfl ?_
    refine AO.nil ?_
    refine AC.condT rfl ?_
    refine AC.seq ?_
    refine AC.region ?_
    refine AO.yld _ (Yld.assign rfl) rfl rfl rfl ?_
    refine AO.yld _ (Yld.assign rfl) rfl rfl rfl ?_
    refine AO.nil ?_
    refine AC.nilVec 4 0 164 3 rfl rfl ?_
    refine FnE.ret () [0] [0] Tryd.results59 (RVs.cons (RV.tmp rfl) (RVs.cons (RV.tmp rfl) RVs.nil)) rfl rfl rfl ?_ ?_ ⟨⟨_, rfl, ?_⟩, trivial⟩
    · -- holds
      trivial
    · -- value
      refine tupE ?_; first | (simp_all [diffStates]; done) | grind [diffStates]
    · -- thing 0
      refine vecE ?_; first | (simp_all [diffStates]; done) | grind [diffStates]
  · -- s14 False
    refine AO.yldG _ (Yld.move rfl) rfl rfl rfl rfl rfl ?_
    refine AO.yldG _ (Yld.call rfl rfl Tryd.call103 rfl rfl rfl (impl_ValidState_c (by first | assumption | omega) (by assumption)) rfl) rfl rfl rfl rfl rfl ?_
    refine AO.yldG _ (Yld.not rfl) rfl rfl rfl rfl rfl ?_
    refine AO.yld _ (Yld.pickF rfl rfl) rfl rfl rfl ?_
    refine AO.nil ?_
    refine AC.cond _ rfl (fun c18 => ?_) (fun c18 => ?_)
    · -- c18 True
      refine AC.seq ?_
      refine AC.region ?_
      refine AO.yld _ (Yld.assign rfl) rfl rfl rfl ?_
      refine AO.yld _ (Yld.assign rfl) rfl rfl rfl ?_
      refine AO.nil ?_
      refine AC.nilVec 4 0 164 3 rfl rfl ?_
      refine FnE.ret () [0] [0] Tryd.results59 (RVs.cons (RV.tmp rfl) (RVs.cons (RV.tmp rfl) RVs.nil)) rfl rfl rfl ?_ ?_ ⟨⟨_, rfl, ?_⟩, trivial⟩
      · -- holds
        trivial
      · -- value
        refine tupE ?_; first | (simp_all [diffStates]; done) | grind [diffStates]
      · -- thing 0
        refine vecE ?_; first | (simp_all [diffStates]; done) | grind [diffStates]
    · -- c18 False
      have hoab : okState a = true ∧ okState b = true := by grind
      obtain ⟨hoa, hob⟩ := hoab
      refine AC.skip ?_
      refine AC.seq ?_
      refine AC.region ?_
      refine AO.yld _ (Yld.assign rfl) rfl rfl rfl ?_
      refine AO.nil ?_
      refine AC.seq ?_
      refine AC.seq ?_
      refine AC.region ?_
      refine AO.yld _ (Yld.move rfl) rfl rfl rfl ?_
      refine AO.yld _ (Yld.len Tryd.underlying72 rfl rfl) rfl rfl rfl ?_
      refine AO.yld _ (Yld.move rfl) rfl rfl rfl ?_
      refine AO.nil ?_
      refine AC.block ?_
      refine AC.nilVec 6 0 164 3 rfl rfl ?_
      refine AC.loopC [(0, _), (1, _), (4, _), (5, _), (19, _), (20, _)] [(900, _)] (fun (k : Nat) => [(21, .p (.v (.int .i64 (k : Int)))), (6, .h 0)]) (fun (k : Nat) => [(0, .vec 164 3 ((drops a b k).map encChg))]) (fun (k : Nat) => k ≤ a.length) (fun (k : Nat) => a.length - k) 0 ⟨rfl, rfl, rfl, rfl, rfl, rfl, trivial⟩ ⟨rfl, trivial⟩ ⟨rfl, rfl, trivial⟩ ⟨rfl, trivial⟩ ?_ (fun k hJ => ?_)
      · exact Nat.zero_le _
      · -- round
        refine AC.seq ?_
        refine AC.region ?_
        refine AO.yld _ (Yld.int rfl rfl rfl) rfl rfl rfl ?_
        refine AO.nil ?_
        refine AC.seq ?_
        refine AC.cond _ rfl (fun c22 => ?_) (fun c22 => ?_)
        · -- c22 True
          have hk := lt_of_decM c22
          obtain ⟨x, hx⟩ := get_some hk
          have hrow := map_row (enc := encNV) hx
          have hdl := drops_len (a := a) (b := b) k
          refine AC.skip ?_
          refine AC.seq ?_
          refine AC.block ?_
          refine AC.seq ?_
          refine AC.region ?_
          refine AO.yld _ (Yld.indexSl Tryd.underlying72 Tryd.sizeOf146 rfl rfl hrow rfl) rfl rfl rfl ?_
          refine AO.yld _ (Yld.loadAgg Tryd.isAgg146 Tryd.sizeOf146 rfl rfl rfl rfl) rfl rfl rfl ?_
          refine AO.alloc 1 Tryd.zeroValue146 rfl rfl rfl ?_
          refine AO.store Tryd.sizeOf146 rfl rfl rfl rfl rfl rfl ?_
          refine AO.nil ?_
          refine AC.seq ?_
          refine AC.region ?_
          refine AO.yld _ (Yld.move rfl) rfl rfl rfl ?_
          refine AO.yld _ (Yld.fieldAddr Tryd.underlying146 rfl rfl Tryd.sizeOf9 rfl rfl rfl) rfl rfl rfl ?_
          refine AO.yld _ (Yld.load Tryd.isAgg9 rfl rfl) rfl rfl rfl ?_
          refine AO.yld _ (Yld.call rfl rfl Tryd.call126 rfl rfl rfl (impl_settingIndex_c (by first | assumption | omega)) rfl) rfl rfl rfl ?_
          refine AO.yld _ (Yld.int rfl rfl rfl) rfl rfl rfl ?_
          refine AO.nil ?_
          refine AC.cond _ rfl (fun c29 => ?_) (fun c29 => ?_)
          · -- c29 True
            refine AC.region ?_
            refine AO.yld _ (Yld.move rfl) rfl rfl rfl ?_
            refine AO.yld _ (Yld.loadAgg Tryd.isAgg146 Tryd.sizeOf146 rfl rfl rfl rfl) rfl rfl rfl ?_
            refine AO.yld _ (Yld.buildA (zs := [.v (.int .i64 0), .v (str []), .v (.int .i64 0)]) bld164 rfl rfl) rfl rfl rfl ?_
            refine AO.buildSlice (rows := [[_, _, _]]) 2 Tryd.underlying100 ty164 rfl rfl rfl rfl rfl rfl rfl rfl rfl ?_
            refine AO.append 0 Tryd.underlying100 ty164 rfl rfl rfl rfl rfl rfl rfl (by simp [pvOne, str]) (by simp only [List.length_map, List.length_cons, List.length_nil, List.length_append]; omega) (by simp only [List.length_map, List.length_cons, List.length_nil, List.length_append]; omega) rfl ?_
            refine AO.yld _ (Yld.assign rfl) rfl rfl rfl ?_
            refine AO.nil ?_
            refine AC.mark ?_
            refine AC.region ?_
            refine AO.yld _ (Yld.add rfl rfl (by omega) (by omega)) rfl rfl rfl ?_
            refine AO.yld _ (Yld.move rfl) rfl rfl rfl ?_
            refine AO.nil ?_
            refine AC.back ⟨k + 1, ?_, ?_, ⟨?_, ?_, trivial⟩, ⟨?_, trivial⟩, ⟨rfl, rfl, rfl, rfl, rfl, rfl, trivial⟩, ⟨rfl, trivial⟩⟩
            · exact hk
            · omega
            · rfl
            · rfl
            · first | (rw [drops_T hx (by simpa using c29)]; rw [map_snoc]; rfl) | (rw [drops_F hx (by simpa using c29)]; rfl)
          · -- c29 False
            refine AC.skip ?_
            refine AC.mark ?_
            refine AC.region ?_
            refine AO.yld _ (Yld.add rfl rfl (by omega) (by omega)) rfl rfl rfl ?_
            refine AO.yld _ (Yld.move rfl) rfl rfl rfl ?_
            refine AO.nil ?_
            refine AC.back ⟨k + 1, ?_, ?_, ⟨?_, ?_, trivial⟩, ⟨?_, trivial⟩, ⟨rfl, rfl, rfl, rfl, rfl, rfl, trivial⟩, ⟨rfl, trivial⟩⟩
            · exact hk
            · omega
            · rfl
            · rfl
            · first | (rw [drops_T hx (by simpa using c29)]; rw [map_snoc]; rfl) | (rw [drops_F hx (by simpa using c29)]; rfl)
        · -- c22 False
          obtain rfl : k = a.length := by have := ge_of_decM c22; omega
          refine AC.exit rfl ?_
          refine AC.seq ?_
          refine AC.seq ?_
          refine AC.region ?_
          refine AO.yld _ (Yld.move rfl) rfl rfl rfl ?_
          refine AO.yld _ (Yld.len Tryd.underlying72 rfl rfl) rfl rfl rfl ?_
          refine AO.yld _ (Yld.move rfl) rfl rfl rfl ?_
          refine AO.nil ?_
          refine AC.block ?_
          refine AC.loopC [(0, _), (4, _), (5, _), (36, _), (37, _)] [(900, _)] (fun (k : Nat) => [(38, .p (.v (.int .i64 (k : Int)))), (6, .h 0)]) (fun (k : Nat) => [(0, .vec 164 3 ((drops a b a.length ++ sets a b k).map encChg))]) (fun (k : Nat) => k ≤ b.length) (fun (k : Nat) => b.length - k) 0 ⟨rfl, rfl, rfl, rfl, rfl, trivial⟩ ⟨rfl, trivial⟩ ⟨rfl, rfl, trivial⟩ ⟨by show some _ = some (Res.vec _ _ ((drops a b a.length ++ []).map encChg)); rw [List.append_nil]; try rfl, trivial⟩ ?_ (fun k hJ => ?_)
          · exact Nat.zero_le _
          · -- round
            refine AC.seq ?_
            refine AC.region ?_
            refine AO.yld _ (Yld.int rfl rfl rfl) rfl rfl rfl ?_
            refine AO.nil ?_
            refine AC.seq ?_
            refine AC.cond _ rfl (fun c39 => ?_) (fun c39 => ?_)
            · -- c39 True
              have hk := lt_of_decM c39
              obtain ⟨x, hx⟩ := get_some hk
              have hrow := map_row (enc := encNV) hx
              have hdl := drops_len (a := a) (b := b) a.length
              have hdk := sets_len (a := a) (b := b) k
              refine AC.skip ?_
              refine AC.seq ?_
              refine AC.block ?_
              refine AC.seq ?_
              refine AC.region ?_
              refine AO.yld _ (Yld.indexSl Tryd.underlying72 Tryd.sizeOf146 rfl rfl hrow rfl) rfl rfl rfl ?_
              refine AO.yld _ (Yld.loadAgg Tryd.isAgg146 Tryd.sizeOf146 rfl rfl rfl rfl) rfl rfl rfl ?_
              refine AO.alloc 1 Tryd.zeroValue146 rfl rfl rfl ?_
              refine AO.store Tryd.sizeOf146 rfl rfl rfl rfl rfl rfl ?_
              refine AO.nil ?_
              refine AC.seq ?_
              refine AC.region ?_
              refine AO.yld _ (Yld.move rfl) rfl rfl rfl ?_
              refine AO.yld _ (Yld.loadAgg Tryd.isAgg146 Tryd.sizeOf146 rfl rfl rfl rfl) rfl rfl rfl ?_
              refine AO.yld _ (Yld.call rfl rfl Tryd.call127 rfl rfl rfl (containsSetting_c (by first | assumption | omega)) rfl) rfl rfl rfl ?_
              refine AO.yld _ (Yld.not rfl) rfl rfl rfl ?_
              refine AO.nil ?_
              refine AC.cond _ rfl (fun c45 => ?_) (fun c45 => ?_)
              · -- c45 True
                refine AC.region ?_
                refine AO.yld _ (Yld.move rfl) rfl rfl rfl ?_
                refine AO.yld _ (Yld.loadAgg Tryd.isAgg146 Tryd.sizeOf146 rfl rfl rfl rfl) rfl rfl rfl ?_
                refine AO.yld _ (Yld.buildA (zs := [.v (.int .i64 0), .v (str []), .v (.int .i64 0)]) bld164 rfl rfl) rfl rfl rfl ?_
                refine AO.buildSlice (rows := [[_, _, _]]) 2 Tryd.underlying100 ty164 rfl rfl rfl rfl rfl rfl rfl rfl rfl ?_
                refine AO.append 0 Tryd.underlying100 ty164 rfl rfl rfl rfl rfl rfl rfl (by simp [pvOne, str]) (by simp only [List.length_map, List.length_cons, List.length_nil, List.length_append]; omega) (by simp only [List.length_map, List.length_cons, List.length_nil, List.length_append]; omega) rfl ?_
                refine AO.yld _ (Yld.assign rfl) rfl rfl rfl ?_
                refine AO.nil ?_
                refine AC.mark ?_
                refine AC.region ?_
                refine AO.yld _ (Yld.add rfl rfl (by omega) (by omega)) rfl rfl rfl ?_
                refine AO.yld _ (Yld.move rfl) rfl rfl rfl ?_
                refine AO.nil ?_
                refine AC.back ⟨k + 1, ?_, ?_, ⟨?_, ?_, trivial⟩, ⟨?_, trivial⟩, ⟨rfl, rfl, rfl, rfl, rfl, trivial⟩, ⟨rfl, trivial⟩⟩
                · exact hk
                · omega
                · rfl
                · rfl
                · first | (rw [sets_T hx (by simpa using c45)]; rw [← List.append_assoc, map_snoc]; rfl) | (rw [sets_F hx (by simpa using c45)]; rfl)
              · -- c45 False
                refine AC.skip ?_
                refine AC.mark ?_
                refine AC.region ?_
                refine AO.yld _ (Yld.add rfl rfl (by omega) (by omega)) rfl rfl rfl ?_
                refine AO.yld _ (Yld.move rfl) rfl rfl rfl ?_
                refine AO.nil ?_
                refine AC.back ⟨k + 1, ?_, ?_, ⟨?_, ?_, trivial⟩, ⟨?_, trivial⟩, ⟨rfl, rfl, rfl, rfl, rfl, trivial⟩, ⟨rfl, trivial⟩⟩
                · exact hk
                · omega
                · rfl
                · rfl
                · first | (rw [sets_T hx (by simpa using c45)]; rw [← List.append_assoc, map_snoc]; rfl) | (rw [sets_F hx (by simpa using c45)]; rfl)
            · -- c39 False
              obtain rfl : k = b.length := by have := ge_of_decM c39; omega
              refine AC.exit rfl ?_
              refine AC.seq ?_
              refine AC.region ?_
              refine AO.yld _ (Yld.move rfl) rfl rfl rfl ?_
              refine AO.yld _ (Yld.assign rfl) rfl rfl rfl ?_
              refine AO.yld _ (Yld.assign rfl) rfl rfl rfl ?_
              refine AO.nil ?_
              refine FnE.ret () [0] [0] Tryd.results59 (RVs.cons (RV.tmp rfl) (RVs.cons (RV.tmp rfl) RVs.nil)) rfl rfl rfl ?_ ?_ ⟨⟨_, rfl, ?_⟩, trivial⟩
              · -- holds
                trivial
              · -- value
                refine tupE ?_; first | (simp_all [diffStates]; done) | grind [diffStates]
              · -- thing 0
                refine vecE ?_; first | (simp_all [diffStates]; done) | grind [diffStates]

theorem indexInt_c {xs : List Int} {n : Int} (hn : xs.length ≤ 1048576) :
    Pure Tryd.prog 200 [.sl 1 (xs.map encI), .v (.int .i64 n)] (.v (.int .i64 (idxOf (fun x => decide (n = x)) xs))) := by
  refine Pure.intro Tryd.func200 rfl Tryd.ntmps200 rfl rfl (fun w => ?_)
  refine AC.seq ?_
  refine AC.region ?_
  refine AO.yld _ (Yld.assign rfl) rfl rfl rfl ?_
  refine AO.nil ?_
  refine AC.seq ?_
  refine AC.seq ?_
  refine AC.region ?_
  refine AO.yld _ (Yld.move rfl) rfl rfl rfl ?_
  refine AO.yld _ (Yld.len Tryd.underlying28 rfl rfl) rfl rfl rfl ?_
  refine AO.yld _ (Yld.move rfl) rfl rfl rfl ?_
  refine AO.nil ?_
  refine AC.block ?_
  refine AC.loopC [(0, _), (1, _), (7, _)] [] (fun (k : Nat) => [(8, .p (.v (.int .i64 (k : Int))))]) (fun (k : Nat) => []) (fun (k : Nat) => k ≤ xs.length ∧ anyTo (fun x => decide (n = x)) xs k = false) (fun (k : Nat) => xs.length - k) 0 ⟨rfl, rfl, rfl, trivial⟩ trivial ⟨rfl, trivial⟩ trivial ?_ (fun k hJ => ?_)
  · exact ⟨Nat.zero_le _, rfl⟩
  · -- round
    refine AC.seq ?_
    refine AC.region ?_
    refine AO.yld _ (Yld.int rfl rfl rfl) rfl rfl rfl ?_
    refine AO.nil ?_
    refine AC.seq ?_
    refine AC.cond _ rfl (fun c9 => ?_) (fun c9 => ?_)
    · -- c9 True
      have hk := lt_of_decM c9
      obtain ⟨x, hx⟩ := get_some hk
      have hrow := map_row (enc := encI) hx
      refine AC.skip ?_
      refine AC.seq ?_
      refine AC.block ?_
      refine AC.seq ?_
      refine AC.region ?_
      refine AO.yld _ (Yld.move rfl) rfl rfl rfl ?_
      refine AO.yld _ (Yld.assign rfl) rfl rfl rfl ?_
      refine AO.nil ?_
      refine AC.seq ?_
      refine AC.region ?_
      refine AO.yld _ (Yld.move rfl) rfl rfl rfl ?_
      refine AO.yld _ (Yld.move rfl) rfl rfl rfl ?_
      refine AO.yld _ (Yld.move rfl) rfl rfl rfl ?_
      refine AO.yld _ (Yld.indexSl Tryd.underlying28 Tryd.sizeOf2 rfl rfl hrow rfl) rfl rfl rfl ?_
      refine AO.yld _ (Yld.load Tryd.isAgg2 rfl rfl) rfl rfl rfl ?_
      refine AO.yld _ (Yld.int rfl rfl rfl) rfl rfl rfl ?_
      refine AO.nil ?_
      refine AC.cond _ rfl (fun c16 => ?_) (fun c16 => ?_)
      · -- c16 True
        refine AC.seq ?_
        refine AC.region ?_
        refine AO.yld _ (Yld.move rfl) rfl rfl rfl ?_
        refine AO.yld _ (Yld.assign rfl) rfl rfl rfl ?_
        refine AO.nil ?_
        refine Pure.ret Tryd.results200 (RVs.cons (RV.tmp rfl) RVs.nil) rfl ?_
        first
          | exact ci (idx_hit hJ.2 hx (by simpa using c16))
          | exact ci (idx_miss hJ.2)
          | exact ci (idx_hit hJ.2 hx (by simpa using c16)).symm
          | exact ci (idx_miss hJ.2).symm
      · -- c16 False
        refine AC.skip ?_
        refine AC.mark ?_
        refine AC.region ?_
        refine AO.yld _ (Yld.add rfl rfl (by omega) (by omega)) rfl rfl rfl ?_
        refine AO.yld _ (Yld.move rfl) rfl rfl rfl ?_
        refine AO.nil ?_
        refine AC.back ⟨k + 1, ?_, ?_, ⟨?_, trivial⟩, trivial, ⟨rfl, rfl, rfl, trivial⟩, trivial⟩
        · exact ⟨hk, by rw [anyTo_succ hx, hJ.2]; simpa using c16⟩
        · omega
        · rfl
    · -- c9 False
      obtain rfl : k = xs.length := by have := ge_of_decM c9; omega
      refine AC.exit rfl ?_
      refine AC.seq ?_
      refine AC.region ?_
      refine AO.yld _ (Yld.assign rfl) rfl rfl rfl ?_
      refine AO.nil ?_
      refine Pure.ret Tryd.results200 (RVs.cons (RV.tmp rfl) RVs.nil) rfl ?_
      first
        | exact ci (idx_hit hJ.2 hx (by simpa using c16))
        | exact ci (idx_miss hJ.2)
        | exact ci (idx_hit hJ.2 hx (by simpa using c16)).symm
        | exact ci (idx_miss hJ.2).symm

theorem containsInt_c {xs : List Int} {n : Int} (hn : xs.length ≤ 1048576) :
    Pure Tryd.prog 177 [.sl 1 (xs.map encI), .v (.int .i64 n)] (.v (.bool (decide (n ∈ xs)))) := by
  refine Pure.intro Tryd.func177 rfl Tryd.ntmps177 rfl rfl (fun w => ?_)
  refine AC.seq ?_
  refine AC.region ?_
  refine AO.yld _ (Yld.assign rfl) rfl rfl rfl ?_
  refine AO.nil ?_
  refine AC.seq ?_
  refine AC.region ?_
  refine AO.yld _ (Yld.move rfl) rfl rfl rfl ?_
  refine AO.yld _ (Yld.move rfl) rfl rfl rfl ?_
  refine AO.yld _ (Yld.call rfl rfl Tryd.call200 rfl rfl rfl (indexInt_c (by first | assumption | omega)) rfl) rfl rfl rfl ?_
  refine AO.yld _ (Yld.int rfl rfl rfl) rfl rfl rfl ?_
  refine AO.yld _ (Yld.assign rfl) rfl rfl rfl ?_
  refine AO.nil ?_
  refine Pure.ret Tryd.results177 (RVs.cons (RV.tmp rfl) RVs.nil) rfl ?_
  refine cb ?_; rw [idx_any]; simp [List.any_eq, eq_comm]

theorem impl_lineOf_c {xs : List Ver} {n : Int} (hg : VersGood xs) (hok : okVers xs = true) (h0 : 0 ≤ n) (h1 : n ≤ xs.length) :
    FnE (α := Unit) Tryd.prog 137 [.p (.sl 4 (xs.map encVer)), .p (.v (.int .i64 n))] [] [] (fun _ => True) (fun _ => .h 0) (fun _ => [(0, .vec 2 1 ((line xs n).map encI))]) := by
  have hl32 := vers_len hok
  refine FnE.intro Tryd.func137 rfl Tryd.ntmps137 rfl rfl (fun w0 F0 η φ w => ?_)
  refine AC.seq ?_
  refine AC.region ?_
  refine AO.yld _ (Yld.assign rfl) rfl rfl rfl ?_
  refine AO.nil ?_
  refine AC.seq ?_
  refine AC.region ?_
  refine AO.yld _ (Yld.assign rfl) rfl rfl rfl ?_
  refine AO.nil ?_
  refine AC.seq ?_
  refine AC.block ?_
  refine AC.nilVec 5 0 2 1 rfl rfl ?_
  refine AC.loopC2 [(0, _), (4, _)] [(900, _)] (fun (m : Int) (acc : List Int) => [(1, .p (.v (.int .i64 m))), (5, .h 0)]) (fun (m : Int) (acc : List Int) => [(0, .vec 2 1 (acc.map encI))]) (fun (m : Int) (acc : List Int) => acc ++ line xs m = line xs n ∧ 0 ≤ m ∧ m ≤ n ∧ acc.length + m.toNat ≤ n.toNat) (fun (m : Int) (acc : List Int) => m.toNat) n [] ⟨rfl, rfl, trivial⟩ ⟨rfl, trivial⟩ ⟨rfl, rfl, trivial⟩ ⟨rfl, trivial⟩ ?_ (fun m acc hJ => ?_)
  · exact ⟨rfl, by omega, by omega, by simp⟩
  · -- round
    refine AC.seq ?_
    refine AC.seq ?_
    refine AC.region ?_
    refine AO.yld _ (Yld.move rfl) rfl rfl rfl ?_
    refine AO.yld _ (Yld.int rfl rfl rfl) rfl rfl rfl ?_
    refine AO.nil ?_
    refine AC.cond _ rfl (fun c7 => ?_) (fun c7 => ?_)
    · -- c7 True
      have hm0 : 0 < m := by simpa using c7
      obtain ⟨x, hx⟩ := get_some (xs := xs) (k := (m - 1).toNat) (by omega)
      have hrow := map_row (enc := encVer) hx
      have hvl := ver_lim (ver_at hok hx)
      have hpe := par_eq hx
      refine AC.skip ?_
      refine AC.seq ?_
      refine AC.block ?_
      refine AC.region ?_
      refine AO.yld _ (Yld.move rfl) rfl rfl rfl ?_
      refine AO.yld _ (Yld.move rfl) rfl rfl rfl ?_
      refine AO.buildSlice (rows := [[_]]) 1 Tryd.underlying28 ty2 rfl rfl rfl rfl rfl rfl rfl rfl rfl ?_
      refine AO.append 0 Tryd.underlying28 ty2 rfl rfl rfl rfl rfl rfl rfl (by simp [pvOne]) (by simp only [List.length_map, List.length_cons, List.length_nil]; omega) (by simp only [List.length_map, List.length_cons, List.length_nil]; omega) rfl ?_
      refine AO.yld _ (Yld.assign rfl) rfl rfl rfl ?_
      refine AO.nil ?_
      refine AC.mark ?_
      refine AC.region ?_
      refine AO.yld _ (Yld.move rfl) rfl rfl rfl ?_
      refine AO.yld _ (Yld.move rfl) rfl rfl rfl ?_
      refine AO.yld _ (Yld.sub rfl rfl (by omega) (by omega)) rfl rfl rfl ?_
      refine AO.yld _ (Yld.indexSl Tryd.underlying80 Tryd.sizeOf74 rfl rfl hrow (by omega)) rfl rfl rfl ?_
      refine AO.yld _ (Yld.fieldAddr Tryd.underlying74 rfl rfl Tryd.sizeOf2 rfl rfl rfl) rfl rfl rfl ?_
      refine AO.yld _ (Yld.load Tryd.isAgg2 rfl rfl) rfl rfl rfl ?_
      refine AO.yld _ (Yld.assign rfl) rfl rfl rfl ?_
      refine AO.nil ?_
      refine AC.back ⟨x.parent, acc ++ [m], ?_, ?_, ⟨?_, ?_, trivial⟩, ⟨?_, trivial⟩, ⟨rfl, rfl, trivial⟩, ⟨rfl, trivial⟩⟩
      · exact ⟨by rw [List.append_assoc, ← hJ.1, line_pos hok (n := m) (by omega), hpe]; rfl, by omega, by omega, by simp only [List.length_append, List.length_singleton]; omega⟩
      · omega
      · rfl
      · rfl
      · rw [map_snoc]; rfl
    · -- c7 False
      have hm0 : ¬ 0 < m := by simpa using c7
      refine AC.exit rfl ?_
      refine AC.seq ?_
      refine AC.region ?_
      refine AO.yld _ (Yld.move rfl) rfl rfl rfl ?_
      refine AO.yld _ (Yld.assign rfl) rfl rfl rfl ?_
      refine AO.nil ?_
      refine FnE.ret () [0] [0] Tryd.results137 (RVs.cons (RV.tmp rfl) RVs.nil) rfl rfl rfl ?_ ?_ ⟨⟨_, rfl, ?_⟩, trivial⟩
      · -- holds
        trivial
      · -- value
        rfl
      · -- thing 0
        refine vecE ?_; have h9 := hJ.1; rw [line_zero (by omega), List.append_nil] at h9; rw [h9]

theorem impl_commonAncestor_c {xs : List Ver} {a b : Int} (hg : VersGood xs) (hok : okVers xs = true) (ha : 1 ≤ a ∧ a ≤ xs.length) (hb : 1 ≤ b ∧ b ≤ xs.length) :
    Pure Tryd.prog 140 [.sl 4 (xs.map encVer), .v (.int .i64 a), .v (.int .i64 b)] (.v (.int .i64 (commonA xs a b))) := by
  have hl32 := vers_len hok
  have hla := line_lim (xs := xs) a
  have hlb := line_lim (xs := xs) b
  refine Pure.intro Tryd.func140 rfl Tryd.ntmps140 rfl rfl (fun w => ?_)
  refine AC.seq ?_
  refine AC.region ?_
  refine AO.yld _ (Yld.assign rfl) rfl rfl rfl ?_
  refine AO.nil ?_
  refine AC.seq ?_
  refine AC.region ?_
  refine AO.yld _ (Yld.move rfl) rfl rfl rfl ?_
  refine AO.yld _ (Yld.move rfl) rfl rfl rfl ?_
  refine AO.callW (wantedN rfl) [0] [] [0] rfl rfl Tryd.call137 rfl (impl_lineOf_c (by assumption) (by assumption) (by omega) (by omega)) (.flat (.view rfl rfl (.view rfl rfl .nil)) (fun _ => by simp [AV.Flat, AV.FlatL, PV.Flat, PV.FlatL]) (fun _ => ⟨flat_map flatI _, trivial⟩)) rfl (fun _ => rfl) trivial rfl (fun _ => rfl) (fun _ => rfl) (fun _ _ => ?_)
  refine AO.yld _ (Yld.assign rfl) rfl rfl rfl ?_
  refine AO.nil ?_
  refine AC.seq ?_
  refine AC.seq ?_
  refine AC.region ?_
  refine AO.yld _ (Yld.move rfl) rfl rfl rfl ?_
  refine AO.yld _ (Yld.move rfl) rfl rfl rfl ?_
  refine AO.callW (wantedN rfl) [1] [] [0] rfl rfl Tryd.call137 rfl (impl_lineOf_c (by assumption) (by assumption) (by omega) (by omega)) (.flat (.view rfl rfl (.view rfl rfl .nil)) (fun _ => by simp [AV.Flat, AV.FlatL, PV.Flat, PV.FlatL]) (fun _ => ⟨flat_map flatI _, trivial⟩)) rfl (fun _ => rfl) trivial rfl (fun _ => rfl) (fun _ => rfl) (fun _ _ => ?_)
  refine AO.yld _ (Yld.len Tryd.underlying28 rfl rfl) rfl rfl rfl ?_
  refine AO.yld _ (Yld.move rfl) rfl rfl rfl ?_
  refine AO.nil ?_
  refine AC.block ?_
  refine AC.loopC [(7, _), (15, _), (16, _)] [(0, _), (1, _)] (fun (k : Nat) => [(17, .p (.v (.int .i64 (k : Int))))]) (fun (k : Nat) => []) (fun (k : Nat) => k ≤ (line xs a).length ∧ anyTo (fun n => decide (n ∈ line xs b)) (line xs a) k = false) (fun (k : Nat) => (line xs a).length - k) 0 ⟨rfl, rfl, rfl, trivial⟩ ⟨rfl, rfl, trivial⟩ ⟨rfl, trivial⟩ trivial ?_ (fun k hJ => ?_)
  · exact ⟨Nat.zero_le _, rfl⟩
  · -- round
    refine AC.seq ?_
    refine AC.region ?_
    refine AO.yld _ (Yld.int rfl rfl rfl) rfl rfl rfl ?_
    refine AO.nil ?_
    refine AC.seq ?_
    refine AC.cond _ rfl (fun c18 => ?_) (fun c18 => ?_)
    · -- c18 True
      have hk := lt_of_decM c18
      obtain ⟨x, hx⟩ := get_some hk
      have hrow := map_row (enc := encI) hx
      refine AC.skip ?_
      refine AC.seq ?_
      refine AC.block ?_
      refine AC.seq ?_
      refine AC.region ?_
      refine AO.yld _ (Yld.indexVec Tryd.underlying28 Tryd.sizeOf2 rfl rfl rfl rfl (by simpa using hk)) rfl rfl rfl ?_
      refine AO.yld _ (Yld.load Tryd.isAgg2 rfl (behind_el rfl hrow)) rfl rfl rfl ?_
      refine AO.yld _ (Yld.assign rfl) rfl rfl rfl ?_
      refine AO.nil ?_
      refine AC.seq ?_
      refine AC.region ?_
      refine AO.yld _ (Yld.move rfl) rfl rfl rfl ?_
      refine AO.yld _ (Yld.move rfl) rfl rfl rfl ?_
      refine AO.yld _ (Yld.call rfl rfl Tryd.call177 rfl rfl rfl (containsInt_c (by first | assumption | omega)) rfl) rfl rfl rfl ?_
      refine AO.nil ?_
      refine AC.cond _ rfl (fun c23 => ?_) (fun c23 => ?_)
      · -- c23 True
        refine AC.seq ?_
        refine AC.region ?_
        refine AO.yld _ (Yld.move rfl) rfl rfl rfl ?_
        refine AO.yld _ (Yld.assign rfl) rfl rfl rfl ?_
        refine AO.nil ?_
        refine Pure.ret Tryd.results140 (RVs.cons (RV.tmp rfl) RVs.nil) rfl ?_
        first
          | exact ci (find_hit hJ.2 hx (by simpa using c23))
          | exact ci (find_miss hJ.2)
      · -- c23 False
        refine AC.skip ?_
        refine AC.mark ?_
        refine AC.region ?_
        refine AO.yld _ (Yld.add rfl rfl (by omega) (by omega)) rfl rfl rfl ?_
        refine AO.yld _ (Yld.move rfl) rfl rfl rfl ?_
        refine AO.nil ?_
        refine AC.back ⟨k + 1, ?_, ?_, ⟨?_, trivial⟩, trivial, ⟨rfl, rfl, rfl, trivial⟩, ⟨rfl, rfl, trivial⟩⟩
        · exact ⟨hk, by rw [anyTo_succ hx, hJ.2]; simpa using c23⟩
        · omega
        · rfl
    · -- c18 False
      obtain rfl : k = (line xs a).length := by have := ge_of_decM c18; omega
      refine AC.exit rfl ?_
      refine AC.seq ?_
      refine AC.region ?_
      refine AO.yld _ (Yld.assign rfl) rfl rfl rfl ?_
      refine AO.nil ?_
      refine Pure.ret Tryd.results140 (RVs.cons (RV.tmp rfl) RVs.nil) rfl ?_
      first
        | exact ci (find_hit hJ.2 hx (by simpa using c23))
        | exact ci (find_miss hJ.2)

theorem spec_l27Number_c {xs : List Ver} {n : Int} (hg : VersGood xs) :
    Pure Tryd.prog 106 [.sl 4 (xs.map encVer), .v (.int .i64 n)] (.v (.bool (inVers xs n))) := by
  have hn := hg.1
  refine Pure.intro Tryd.func106 rfl Tryd.ntmps106 rfl rfl (fun w => ?_)
  refine AC.seq ?_
  refine AC.region ?_
  refine AO.yld _ (Yld.assign rfl) rfl rfl rfl ?_
  refine AO.nil ?_
  refine AC.seq ?_
  refine AC.region ?_
  refine AO.yld _ (Yld.move rfl) rfl rfl rfl ?_
  refine AO.yld _ (Yld.move rfl) rfl rfl rfl ?_
  refine AO.yld _ (Yld.len Tryd.underlying80 rfl rfl) rfl rfl rfl ?_
  refine AO.yld _ (Yld.call rfl rfl Tryd.call97 rfl rfl rfl (spec_l00In_c) rfl) rfl rfl rfl ?_
  refine AO.yld _ (Yld.assign rfl) rfl rfl rfl ?_
  refine AO.nil ?_
  refine Pure.ret Tryd.results106 (RVs.cons (RV.tmp rfl) RVs.nil) rfl ?_
  refine cb ?_; simp only [inVers, List.length_map]

theorem impl_CommonAncestor_c {xs : List Ver} {a b : Int} (hg : VersGood xs) :
    Pure Tryd.prog 66 [.sl 4 (xs.map encVer), .v (.int .i64 a), .v (.int .i64 b)] (.tup [.v (.int .i64 (commonAncestor xs a b).1), .v (.int .i64 (commonAncestor xs a b).2)]) := by
  have hn := hg.1
  have hM : (xs.map encVer).length = xs.length := List.length_map ..
  refine Pure.intro Tryd.func66 rfl Tryd.ntmps66 rfl rfl (fun w => ?_)
  refine AC.seq ?_
  refine AC.region ?_
  refine AO.yld _ (Yld.assign rfl) rfl rfl rfl ?_
  refine AO.yld _ (Yld.assign rfl) rfl rfl rfl ?_
  refine AO.nil ?_
  refine AC.seq ?_
  refine AC.seq ?_
  refine AC.region ?_
  refine AO.yld _ (Yld.move rfl) rfl rfl rfl ?_
  refine AO.yld _ (Yld.call rfl rfl Tryd.call109 rfl rfl rfl (impl_ValidHistory_c (by assumption)) rfl) rfl rfl rfl ?_
  refine AO.yld _ (Yld.not rfl) rfl rfl rfl ?_
  refine AO.nil ?_
  refine AC.cond _ rfl (fun c10 => ?_) (fun c10 => ?_)
  · -- c10 True
    refine AC.seq ?_
    refine AC.region ?_
    refine AO.yld _ (Yld.assign rfl) rfl rfl rfl ?_
    refine AO.yld _ (Yld.assign rfl) rfl rfl rfl ?_
    refine AO.nil ?_
    refine Pure.retT Tryd.results66 (RVs.cons (RV.tmp rfl) (RVs.cons (RV.tmp rfl) RVs.nil)) rfl ?_
    first
      | (simp_all [commonAncestor]; done)
      | (simp only [commonAncestor, if_pos hok, hin.1, hin.2]; rfl)
      | (have hno : ¬ (inVers xs a && inVers xs b) = true := (by (try simp only [hM] at *); unfold inVers; first | grind | simp_all); simp only [commonAncestor, if_pos hok, if_neg hno])
  · -- c10 False
    have hok : okVers xs = true := by simpa using c10
    refine AC.skip ?_
    refine AC.seq ?_
    refine AC.seq ?_
    refine AC.region ?_
    refine AO.yld _ (Yld.move rfl) rfl rfl rfl ?_
    refine AO.yld _ (Yld.move rfl) rfl rfl rfl ?_
    refine AO.yld _ (Yld.len Tryd.underlying80 rfl rfl) rfl rfl rfl ?_
    refine AO.yld _ (Yld.call rfl rfl Tryd.call80 rfl rfl rfl (impl_within_c) rfl) rfl rfl rfl ?_
    refine AO.yld _ (Yld.not rfl) rfl rfl rfl ?_
    refine AO.yld _ (Yld.move rfl) rfl rfl rfl ?_
    refine AO.splitAt 16 _ rfl (fun s16 => ?_) (fun s16 => ?_)
    · -- s16 True
      refine AO.skipF rfl rfl rfl rfl rfl ?_
      refine AO.skipF rfl rfl rfl rfl rfl ?_
      refine AO.skipF rfl rfl rfl rfl rfl ?_
      refine AO.skipF rfl rfl rfl rfl rfl ?_
      refine AO.skipF rfl rfl rfl rfl rfl ?_
      refine AO.yld _ (Yld.pickT rfl rfl) rfl rfl rfl ?_
      refine AO.nil ?_
      refine AC.condT rfl ?_
      refine AC.seq ?_
      refine AC.region ?_
      refine AO.yld _ (Yld.assign rfl) rfl rfl rfl ?_
      refine AO.yld _ (Yld.assign rfl) rfl rfl rfl ?_
      refine AO.nil ?_
      refine Pure.retT Tryd.results66 (RVs.cons (RV.tmp rfl) (RVs.cons (RV.tmp rfl) RVs.nil)) rfl ?_
      first
        | (simp_all [commonAncestor]; done)
        | (simp only [commonAncestor, if_pos hok, hin.1, hin.2]; rfl)
        | (have hno : ¬ (inVers xs a && inVers xs b) = true := (by (try simp only [hM] at *); unfold inVers; first | grind | simp_all); simp only [commonAncestor, if_pos hok, if_neg hno])
    · -- s16 False
      refine AO.yldG _ (Yld.move rfl) rfl rfl rfl rfl rfl ?_
      refine AO.yldG _ (Yld.move rfl) rfl rfl rfl rfl rfl ?_
      refine AO.yldG _ (Yld.len Tryd.underlying80 rfl rfl) rfl rfl rfl rfl rfl ?_
      refine AO.yldG _ (Yld.call rfl rfl Tryd.call80 rfl rfl rfl (impl_within_c) rfl) rfl rfl rfl rfl rfl ?_
      refine AO.yldG _ (Yld.not rfl) rfl rfl rfl rfl rfl ?_
      refine AO.yld _ (Yld.pickF rfl rfl) rfl rfl rfl ?_
      refine AO.nil ?_
      refine AC.cond _ rfl (fun c22 => ?_) (fun c22 => ?_)
      · -- c22 True
        refine AC.seq ?_
        refine AC.region ?_
        refine AO.yld _ (Yld.assign rfl) rfl rfl rfl ?_
        refine AO.yld _ (Yld.assign rfl) rfl rfl rfl ?_
        refine AO.nil ?_
        refine Pure.retT Tryd.results66 (RVs.cons (RV.tmp rfl) (RVs.cons (RV.tmp rfl) RVs.nil)) rfl ?_
        first
          | (simp_all [commonAncestor]; done)
          | (simp only [commonAncestor, if_pos hok, hin.1, hin.2]; rfl)
          | (have hno : ¬ (inVers xs a && inVers xs b) = true := (by (try simp only [hM] at *); unfold inVers; first | grind | simp_all); simp only [commonAncestor, if_pos hok, if_neg hno])
      · -- c22 False
        have hin : inVers xs a = true ∧ inVers xs b = true := by (try simp only [hM] at *); first | (simp_all; done) | (unfold inVers; simp_all; done) | (unfold inVers; grind)
        have ha : 1 ≤ a ∧ a ≤ xs.length := by simpa [inVers] using hin.1
        have hb : 1 ≤ b ∧ b ≤ xs.length := by simpa [inVers] using hin.2
        refine AC.skip ?_
        refine AC.seq ?_
        refine AC.region ?_
        refine AO.yld _ (Yld.move rfl) rfl rfl rfl ?_
        refine AO.yld _ (Yld.move rfl) rfl rfl rfl ?_
        refine AO.yld _ (Yld.move rfl) rfl rfl rfl ?_
        refine AO.yld _ (Yld.call rfl rfl Tryd.call140 rfl rfl rfl (impl_commonAncestor_c (by assumption) (by assumption) (by omega) (by omega)) rfl) rfl rfl rfl ?_
        refine AO.yld _ (Yld.assign rfl) rfl rfl rfl ?_
        refine AO.yld _ (Yld.assign rfl) rfl rfl rfl ?_
        refine AO.nil ?_
        refine Pure.retT Tryd.results66 (RVs.cons (RV.tmp rfl) (RVs.cons (RV.tmp rfl) RVs.nil)) rfl ?_
        first
          | (simp_all [commonAncestor]; done)
          | (simp only [commonAncestor, if_pos hok, hin.1, hin.2]; rfl)
          | (have hno : ¬ (inVers xs a && inVers xs b) = true := (by (try simp only [hM] at *); unfold inVers; first | grind | simp_all); simp only [commonAncestor, if_pos hok, if_neg hno])

theorem laws_toVersionS_n {xs : List Ver} (hg : VersGood xs) :
    FnE (α := Unit) Tryd.prog 42 [.p (.sl 4 (xs.map encVer))] [] [] (fun _ => True) (fun _ => .h 0) (fun _ => [(0, .cust (nestC 74 4 146 2 (xs.map verC) (xs.map verI) (xs.map encVer) ver_nest))]) := by
  have hM : (xs.map encVer).length = xs.length := List.length_map ..
  have hn := hg.1
  refine FnE.intro Tryd.func42 rfl Tryd.ntmps42 rfl rfl (fun w0 F0 η φ w => ?_)
  refine AC.seq ?_
  refine AC.region ?_
  refine AO.yld _ (Yld.assign rfl) rfl rfl rfl ?_
  refine AO.nil ?_
  refine AC.seq ?_
  refine AC.region ?_
  refine AO.yld _ (Yld.move rfl) rfl rfl rfl ?_
  refine AO.yld _ (Yld.len Tryd.underlying78 rfl rfl) rfl rfl rfl ?_
  refine AO.make 0 Tryd.underlying80 ty74 rfl rfl rfl rfl rfl (Nat.le_refl _) (by rw [hM]; omega) (by rw [hM]; omega) rfl rfl ?_
  refine AO.yld _ (Yld.assign rfl) rfl rfl rfl ?_
  refine AO.nil ?_
  refine AC.seq ?_
  refine AC.seq ?_
  refine AC.region ?_
  refine AO.yld _ (Yld.assign rfl) rfl rfl rfl ?_
  refine AO.nil ?_
  refine AC.block ?_
  refine AC.poolNew 1 146 2 rfl ?_
  refine AC.loopC2 [(0, _), (2, _), (3, _)] [(900, _)] (fun (k : Nat) (vs : List Value) => [(4, .p (.v (.int .i64 (k : Int)))), (3, .h 0)]) (fun (k : Nat) (vs : List Value) => [(0, .vec 74 4 (nfill [.v (.int .i64 0), .v (.int .i64 0), .v (.string ⟨#[]⟩), .sl 0 []] xs vs)), (1, .cust (poolC 146 2 (poolL vs ((xs.take k).map verI))))]) (fun (k : Nat) (vs : List Value) => k ≤ xs.length ∧ vs.length = k) (fun (k : Nat) (vs : List Value) => xs.length - k) 0 [] ⟨rfl, rfl, rfl, trivial⟩ ⟨rfl, trivial⟩ ⟨rfl, rfl, trivial⟩ ⟨by rw [nfill_zero, ← hM]; rfl, rfl, trivial⟩ ?_ (fun k vs hJ => ?_)
  · exact ⟨Nat.zero_le _, rfl⟩
  · -- round
    refine AC.seq ?_
    refine AC.seq ?_
    refine AC.region ?_
    refine AO.yld _ (Yld.move rfl) rfl rfl rfl ?_
    refine AO.yld _ (Yld.move rfl) rfl rfl rfl ?_
    refine AO.yld _ (Yld.len Tryd.underlying78 rfl rfl) rfl rfl rfl ?_
    refine AO.yld _ (Yld.int rfl rfl rfl) rfl rfl rfl ?_
    refine AO.nil ?_
    refine AC.cond _ rfl (fun c11 => ?_) (fun c11 => ?_)
    · -- c11 True
      have hk := lt_of_decM c11
      obtain ⟨x, hx⟩ := get_some hk
      have hrow := map_row (enc := encVer) hx
      have hgx := hg.2 x (List.mem_of_getElem? hx)
      refine AC.skip ?_
      refine AC.seq ?_
      refine AC.block ?_
      refine AC.region ?_
      refine AO.yld _ (Yld.move rfl) rfl rfl rfl ?_
      refine AO.yld _ (Yld.move rfl) rfl rfl rfl ?_
      refine AO.yld _ (Yld.move rfl) rfl rfl rfl ?_
      refine AO.yld _ (Yld.move rfl) rfl rfl rfl ?_
      refine AO.yld _ (Yld.indexSl Tryd.underlying78 Tryd.sizeOf69 rfl rfl hrow rfl) rfl rfl rfl ?_
      refine AO.yld _ (Yld.loadAgg Tryd.isAgg69 Tryd.sizeOf69 rfl rfl rfl rfl) rfl rfl rfl ?_
      refine AO.callW (wantedN rfl) [2] [] [0] rfl rfl Tryd.call37 rfl (laws_toVersion_c (by assumption)) (.own rfl) rfl (fun _ => rfl) trivial rfl (fun _ => rfl) (fun _ => rfl) (fun _ _ => ?_)
      refine AO.poolAdd 2 1 rfl rfl rfl (fun va vn vc => ?_)
      refine AO.yld _ (Yld.indexVec Tryd.underlying80 Tryd.sizeOf74 rfl rfl rfl rfl (by rw [nfill_length (by omega)]; exact hk)) rfl rfl rfl ?_
      refine AO.store Tryd.sizeOf74 rfl rfl rfl rfl rfl (store_el rfl (nfill_get hJ.2 hk) rfl rfl) ?_
      refine AO.nil ?_
      refine AC.mark ?_
      refine AC.region ?_
      refine AO.yld _ (Yld.move rfl) rfl rfl rfl ?_
      refine AO.yld _ (Yld.add rfl rfl (by omega) (by omega)) rfl rfl rfl ?_
      refine AO.yld _ (Yld.assign rfl) rfl rfl rfl ?_
      refine AO.nil ?_
      refine AC.back ⟨k + 1, vs ++ [.slice va vn vc], ?_, ?_, ⟨?_, ?_, trivial⟩, ⟨?_, ?_, trivial⟩, ⟨rfl, rfl, rfl, trivial⟩, ⟨rfl, trivial⟩⟩
      · exact ⟨hk, by simp [hJ.2]⟩
      · omega
      · rfl
      · rfl
      · rw [← nfill_set hJ.2 hx]; rfl
      · rw [← pool_snoc hJ.2 hx]; rfl
    · -- c11 False
      obtain rfl : k = xs.length := by have := ge_of_decM c11; omega
      refine AC.exit rfl ?_
      refine AC.seq ?_
      refine AC.region ?_
      refine AO.yld _ (Yld.move rfl) rfl rfl rfl ?_
      refine AO.yld _ (Yld.assign rfl) rfl rfl rfl ?_
      refine AO.nil ?_
      refine AC.nestJoin 0 1 (cs := xs.map verC) (ins := xs.map verI) (hV := ver_nest) (vs := vs) rfl rfl rfl (nfill_end hJ.2) (by rw [List.take_of_length_le (Nat.le_refl _)]) (by simp; exact hJ.2) (by simp) ?_
      refine FnE.ret () [0] [0] Tryd.results42 (RVs.cons (RV.tmp rfl) RVs.nil) rfl rfl rfl ?_ ?_ ⟨⟨_, rfl, ?_⟩, trivial⟩
      · -- holds
        trivial
      · -- value
        rfl
      · -- thing 0
        rfl

theorem laws_markVersionS_c {xs : List Ver} {k0 : Int} (hg : VersGood xs) (h0 : 0 ≤ k0) (h1 : k0 ≤ 100000000000) :
    FnE (α := Unit) Tryd.prog 45 [.h 0, .p (.v (.int .i64 k0))] [(0, .cust (nestC 74 4 146 2 (xs.map verC) (xs.map verI) (xs.map encVer) ver_nest))] [0] (fun _ => True) (fun _ => .p (.v (.int .i64 (mkK k0 (stL xs))))) (fun _ => [(0, .cust (nestC 74 4 146 2 (mkC k0 (stL xs)) (mkI k0 (stL xs)) (mkV k0 (stL xs)) rfl))]) := by
  have hn := hg.1
  refine FnE.intro Tryd.func45 rfl Tryd.ntmps45 rfl rfl (fun w0 F0 η φ w => ?_)
  refine AC.seq ?_
  refine AC.region ?_
  refine AO.yld _ (Yld.assign rfl) rfl rfl rfl ?_
  refine AO.nil ?_
  refine AC.seq ?_
  refine AC.seq ?_
  refine AC.region ?_
  refine AO.yld _ (Yld.assign rfl) rfl rfl rfl ?_
  refine AO.nil ?_
  refine AC.block ?_
  refine AC.nestSplit 0 1 rfl rfl (fun vs hvl hil => ?_)
  refine AC.loopC [(0, _), (4, _)] [(900, _)] (fun (k : Nat) => [(5, .p (.v (.int .i64 (k : Int)))), (1, .p (.v (.int .i64 (markK k0 xs k))))]) (fun (k : Nat) => [(0, .vec 74 4 (rowsV (markC k0 xs k) vs)), (1, .cust (poolC 146 2 (poolL vs (markI k0 xs k))))]) (fun (k : Nat) => k ≤ xs.length) (fun (k : Nat) => xs.length - k) 0 ⟨rfl, rfl, trivial⟩ ⟨rfl, trivial⟩ ⟨rfl, by rw [markK_zero]; rfl, trivial⟩ ⟨by rw [markC_zero]; rfl, by rw [markI_zero]; rfl, trivial⟩ ?_ (fun k hJ => ?_)
  · exact Nat.zero_le _
  · -- round
    refine AC.seq ?_
    refine AC.seq ?_
    refine AC.region ?_
    refine AO.yld _ (Yld.move rfl) rfl rfl rfl ?_
    refine AO.yld _ (Yld.move rfl) rfl rfl rfl ?_
    refine AO.yld _ (Yld.len Tryd.underlying80 rfl rfl) rfl rfl rfl ?_
    refine AO.yld _ (Yld.int rfl rfl rfl) rfl rfl rfl ?_
    refine AO.nil ?_
    refine AC.cond _ rfl (fun c9 => ?_) (fun c9 => ?_)
    · -- c9 True
      have hvl2 : vs.length = xs.length := by simpa using hvl
      have hk : k < xs.length := by have h := c9; rw [markRows_len hvl2 (by omega)] at h; simpa using h
      obtain ⟨x, hx⟩ := get_some hk
      obtain ⟨v, hv⟩ := get_some (xs := vs) (k := k) (by omega)
      obtain ⟨g1, g2, g3⟩ := hg.2 x (List.mem_of_getElem? hx)
      have hkl := markK_lim (k0 := k0) (k := k) hg
      have e3 : markK k0 xs k + 1 + 1 + 1 = markK k0 xs k + 3 := by omega
      have e2 : markK k0 xs k + 1 + 1 = markK k0 xs k + 2 := by omega
      refine AC.skip ?_
      refine AC.seq ?_
      refine AC.block ?_
      refine AC.seq ?_
      refine AC.region ?_
      refine AO.yld _ (Yld.move rfl) rfl rfl rfl ?_
      refine AO.yld _ (Yld.move rfl) rfl rfl rfl ?_
      refine AO.yld _ (Yld.move rfl) rfl rfl rfl ?_
      refine AO.yld _ (Yld.indexVec Tryd.underlying80 Tryd.sizeOf74 rfl rfl rfl rfl (by first | (rw [markRows_len (by omega) (by omega)]; exact hk) | (simp only [List.length_set]; rw [markRows_len (by omega) (by omega)]; exact hk))) rfl rfl rfl ?_
      refine AO.yld _ (Yld.fieldAddr Tryd.underlying74 rfl rfl Tryd.sizeOf2 rfl (behind_el rfl (markRows_get hx hv)) rfl) rfl rfl rfl ?_
      refine AO.store Tryd.sizeOf2 rfl rfl rfl rfl rfl (store_el rfl (markRows_get hx hv) rfl rfl) ?_
      refine AO.nil ?_
      refine AC.seq ?_
      refine AC.region ?_
      refine AO.yld _ (Yld.move rfl) rfl rfl rfl ?_
      refine AO.yld _ (Yld.add rfl rfl (by omega) (by omega)) rfl rfl rfl ?_
      refine AO.yld _ (Yld.assign rfl) rfl rfl rfl ?_
      refine AO.nil ?_
      refine AC.seq ?_
      refine AC.region ?_
      refine AO.yld _ (Yld.move rfl) rfl rfl rfl ?_
      refine AO.yld _ (Yld.move rfl) rfl rfl rfl ?_
      refine AO.yld _ (Yld.move rfl) rfl rfl rfl ?_
      refine AO.yld _ (Yld.indexVec Tryd.underlying80 Tryd.sizeOf74 rfl rfl rfl rfl (by first | (rw [markRows_len (by omega) (by omega)]; exact hk) | (simp only [List.length_set]; rw [markRows_len (by omega) (by omega)]; exact hk))) rfl rfl rfl ?_
      refine AO.yld _ (Yld.fieldAddr Tryd.underlying74 rfl rfl Tryd.sizeOf2 rfl (behind_el rfl (set_get (by first | (rw [markRows_len (by omega) (by omega)]; exact hk) | (simp only [List.length_set]; rw [markRows_len (by omega) (by omega)]; exact hk)))) rfl) rfl rfl rfl ?_
      refine AO.store Tryd.sizeOf2 rfl rfl rfl rfl rfl (store_el rfl (set_get (by first | (rw [markRows_len (by omega) (by omega)]; exact hk) | (simp only [List.length_set]; rw [markRows_len (by omega) (by omega)]; exact hk))) rfl rfl) ?_
      refine AO.nil ?_
      refine AC.seq ?_
      refine AC.region ?_
      refine AO.yld _ (Yld.move rfl) rfl rfl rfl ?_
      refine AO.yld _ (Yld.add rfl rfl (by omega) (by omega)) rfl rfl rfl ?_
      refine AO.yld _ (Yld.assign rfl) rfl rfl rfl ?_
      refine AO.nil ?_
      refine AC.seq ?_
      refine AC.region ?_
      refine AO.yld _ (Yld.move rfl) rfl rfl rfl ?_
      refine AO.yld _ (Yld.move rfl) rfl rfl rfl ?_
      refine AO.yld _ (Yld.move rfl) rfl rfl rfl ?_
      refine AO.yld _ (Yld.call rfl rfl Tryd.call112 rfl rfl rfl (laws_markText_c (by omega)) rfl) rfl rfl rfl ?_
      refine AO.yld _ (Yld.indexVec Tryd.underlying80 Tryd.sizeOf74 rfl rfl rfl rfl (by first | (rw [markRows_len (by omega) (by omega)]; exact hk) | (simp only [List.length_set]; rw [markRows_len (by omega) (by omega)]; exact hk))) rfl rfl rfl ?_
      refine AO.yld _ (Yld.fieldAddr Tryd.underlying74 rfl rfl Tryd.sizeOf9 rfl (behind_el rfl (set_get (by first | (rw [markRows_len (by omega) (by omega)]; exact hk) | (simp only [List.length_set]; rw [markRows_len (by omega) (by omega)]; exact hk)))) rfl) rfl rfl rfl ?_
      refine AO.store Tryd.sizeOf9 rfl rfl rfl rfl rfl (store_el rfl (set_get (by first | (rw [markRows_len (by omega) (by omega)]; exact hk) | (simp only [List.length_set]; rw [markRows_len (by omega) (by omega)]; exact hk))) rfl rfl) ?_
      refine AO.nil ?_
      refine AC.seq ?_
      refine AC.region ?_
      refine AO.yld _ (Yld.move rfl) rfl rfl rfl ?_
      refine AO.yld _ (Yld.add rfl rfl (by omega) (by omega)) rfl rfl rfl ?_
      refine AO.yld _ (Yld.assign rfl) rfl rfl rfl ?_
      refine AO.nil ?_
      refine AC.region ?_
      refine AO.yld _ (Yld.move rfl) rfl rfl rfl ?_
      refine AO.yld _ (Yld.move rfl) rfl rfl rfl ?_
      refine AO.yld _ (Yld.indexVec Tryd.underlying80 Tryd.sizeOf74 rfl rfl rfl rfl (by first | (rw [markRows_len (by omega) (by omega)]; exact hk) | (simp only [List.length_set]; rw [markRows_len (by omega) (by omega)]; exact hk))) rfl rfl rfl ?_
      refine AO.yld _ (Yld.fieldAddr Tryd.underlying74 rfl rfl Tryd.sizeOf72 rfl (behind_el rfl (set_get (by first | (rw [markRows_len (by omega) (by omega)]; exact hk) | (simp only [List.length_set]; rw [markRows_len (by omega) (by omega)]; exact hk)))) rfl) rfl rfl rfl ?_
      refine AO.yld _ (Yld.load Tryd.isAgg72 rfl (Eq.trans (behind_el rfl (set_get (by first | (rw [markRows_len (by omega) (by omega)]; exact hk) | (simp only [List.length_set]; rw [markRows_len (by omega) (by omega)]; exact hk)))) rfl)) rfl rfl rfl ?_
      refine AO.poolTake 38 1 2 rfl rfl (markPool_get hx hv) rfl ?_
      refine AO.yld _ (Yld.move rfl) rfl rfl rfl ?_
      refine AO.callW (wantedN rfl) [2] [0] [0] rfl rfl Tryd.call113 rfl ((laws_markSettingS_c (xs := x.state) (k0 := markK k0 xs k + 1 + 1 + 1) (by omega) (by omega) (by omega)).at v) (.own rfl) rfl (fun _ => rfl) ⟨rfl, trivial⟩ rfl (fun _ => rfl) (fun _ => rfl) (fun _ _ => ?_)
      refine AO.poolGive 1 2 rfl rfl rfl (pool_get_set (by rw [markPool_len (by omega) (by omega)]; exact hk)) ?_
      refine AO.yld _ (Yld.assign rfl) rfl rfl rfl ?_
      refine AO.nil ?_
      refine AC.mark ?_
      refine AC.region ?_
      refine AO.yld _ (Yld.move rfl) rfl rfl rfl ?_
      refine AO.yld _ (Yld.add rfl rfl (by omega) (by omega)) rfl rfl rfl ?_
      refine AO.yld _ (Yld.assign rfl) rfl rfl rfl ?_
      refine AO.nil ?_
      refine AC.back ⟨k + 1, ?_, ?_, ⟨?_, ?_, trivial⟩, ⟨?_, ?_, trivial⟩, ⟨rfl, rfl, trivial⟩, ⟨rfl, trivial⟩⟩
      · exact hk
      · omega
      · rfl
      · show some (AV.p (PV.v (Value.int IntKind.i64 _))) = _; rw [markK_succ hx, ← e3]; try rfl
      · try simp only [List.set_set]
        rw [← markRows_set hx hv, ← e2]; rfl
      · rw [← markPool_set hx hv, ← e3]; rfl
    · -- c9 False
      have hvl2 : vs.length = xs.length := by simpa using hvl
      obtain rfl : k = xs.length := by have h := c9; rw [markRows_len hvl2 (by omega)] at h; simp at h; omega
      refine AC.exit rfl ?_
      refine AC.seq ?_
      refine AC.region ?_
      refine AO.yld _ (Yld.move rfl) rfl rfl rfl ?_
      refine AO.yld _ (Yld.assign rfl) rfl rfl rfl ?_
      refine AO.nil ?_
      refine AC.nestJoin 0 1 (cs := mkC k0 (stL xs)) (ins := mkI k0 (stL xs)) (hV := rfl) (vs := vs) rfl rfl rfl (by rw [markC_end]) (by rw [markI_end]) (by rw [mkC_length, stL_len]; omega) (by rw [mkI_length, mkC_length]) ?_
      refine FnE.ret () [0] [0] Tryd.results45 (RVs.cons (RV.tmp rfl) RVs.nil) rfl rfl rfl ?_ ?_ ⟨⟨_, rfl, ?_⟩, trivial⟩
      · -- holds
        trivial
      · -- value
        first | rfl | (simp only [markK, List.take_length]; rfl)
      · -- thing 0
        rfl

theorem indexFuncVersion_c {xs : List Ver} {f : FuncId} {caps : List PV} {p : Ver → Bool} (hn : xs.length ≤ 1048576) (hf : Enters Tryd.prog f) (hp : ∀ x ∈ xs, Pure Tryd.prog f (.agg (encVer x) :: caps) (.v (.bool (p x)))) :
    Pure Tryd.prog 176 [.sl 4 (xs.map encVer), .clo f caps] (.v (.int .i64 (idxOf p xs))) := by
  refine Pure.intro Tryd.func176 rfl Tryd.ntmps176 rfl rfl (fun w => ?_)
  refine AC.seq ?_
  refine AC.region ?_
  refine AO.yld _ (Yld.assign rfl) rfl rfl rfl ?_
  refine AO.nil ?_
  refine AC.seq ?_
  refine AC.seq ?_
  refine AC.region ?_
  refine AO.yld _ (Yld.move rfl) rfl rfl rfl ?_
  refine AO.yld _ (Yld.len Tryd.underlying80 rfl rfl) rfl rfl rfl ?_
  refine AO.yld _ (Yld.move rfl) rfl rfl rfl ?_
  refine AO.nil ?_
  refine AC.block ?_
  refine AC.loopC [(0, _), (1, _), (7, _)] [] (fun (k : Nat) => [(8, .p (.v (.int .i64 (k : Int))))]) (fun (k : Nat) => []) (fun (k : Nat) => k ≤ xs.length ∧ anyTo p xs k = false) (fun (k : Nat) => xs.length - k) 0 ⟨rfl, rfl, rfl, trivial⟩ trivial ⟨rfl, trivial⟩ trivial ?_ (fun k hJ => ?_)
  · exact ⟨Nat.zero_le _, rfl⟩
  · -- round
    refine AC.seq ?_
    refine AC.region ?_
    refine AO.yld _ (Yld.int rfl rfl rfl) rfl rfl rfl ?_
    refine AO.nil ?_
    refine AC.seq ?_
    refine AC.cond _ rfl (fun c9 => ?_) (fun c9 => ?_)
    · -- c9 True
      have hk := lt_of_decM c9
      obtain ⟨x, hx⟩ := get_some hk
      have hrow := map_row (enc := encVer) hx
      refine AC.skip ?_
      refine AC.seq ?_
      refine AC.block ?_
      refine AC.seq ?_
      refine AC.region ?_
      refine AO.yld _ (Yld.move rfl) rfl rfl rfl ?_
      refine AO.yld _ (Yld.assign rfl) rfl rfl rfl ?_
      refine AO.nil ?_
      refine AC.seq ?_
      refine AC.region ?_
      refine AO.yld _ (Yld.move rfl) rfl rfl rfl ?_
      refine AO.yld _ (Yld.move rfl) rfl rfl rfl ?_
      refine AO.yld _ (Yld.move rfl) rfl rfl rfl ?_
      refine AO.yld _ (Yld.indexSl Tryd.underlying80 Tryd.sizeOf74 rfl rfl hrow rfl) rfl rfl rfl ?_
      refine AO.yld _ (Yld.loadAgg Tryd.isAgg74 Tryd.sizeOf74 rfl rfl rfl rfl) rfl rfl rfl ?_
      refine AO.yld _ (Yld.call rfl rfl hf rfl rfl (viewL_p _) (hp x (List.mem_of_getElem? hx)) rfl) rfl rfl rfl ?_
      refine AO.nil ?_
      refine AC.cond _ rfl (fun c16 => ?_) (fun c16 => ?_)
      · -- c16 True
        refine AC.seq ?_
        refine AC.region ?_
        refine AO.yld _ (Yld.move rfl) rfl rfl rfl ?_
        refine AO.yld _ (Yld.assign rfl) rfl rfl rfl ?_
        refine AO.nil ?_
        refine Pure.ret Tryd.results176 (RVs.cons (RV.tmp rfl) RVs.nil) rfl ?_
        first
          | exact ci (idx_hit hJ.2 hx (by simpa using c16))
          | exact ci (idx_miss hJ.2)
      · -- c16 False
        refine AC.skip ?_
        refine AC.mark ?_
        refine AC.region ?_
        refine AO.yld _ (Yld.add rfl rfl (by omega) (by omega)) rfl rfl rfl ?_
        refine AO.yld _ (Yld.move rfl) rfl rfl rfl ?_
        refine AO.nil ?_
        refine AC.back ⟨k + 1, ?_, ?_, ⟨?_, trivial⟩, trivial, ⟨rfl, rfl, rfl, trivial⟩, trivial⟩
        · exact ⟨hk, by rw [anyTo_succ hx, hJ.2]; simpa using c16⟩
        · omega
        · rfl
    · -- c9 False
      obtain rfl : k = xs.length := by have := ge_of_decM c9; omega
      refine AC.exit rfl ?_
      refine AC.seq ?_
      refine AC.region ?_
      refine AO.yld _ (Yld.assign rfl) rfl rfl rfl ?_
      refine AO.nil ?_
      refine Pure.ret Tryd.results176 (RVs.cons (RV.tmp rfl) RVs.nil) rfl ?_
      first
        | exact ci (idx_hit hJ.2 hx (by simpa using c16))
        | exact ci (idx_miss hJ.2)

theorem containsFuncVersion_c {xs : List Ver} {f : FuncId} {caps : List PV} {p : Ver → Bool} (hn : xs.length ≤ 1048576) (hf : Enters Tryd.prog f) (hp : ∀ x ∈ xs, Pure Tryd.prog f (.agg (encVer x) :: caps) (.v (.bool (p x)))) :
    Pure Tryd.prog 138 [.sl 4 (xs.map encVer), .clo f caps] (.v (.bool (xs.any p))) := by
  refine Pure.intro Tryd.func138 rfl Tryd.ntmps138 rfl rfl (fun w => ?_)
  refine AC.seq ?_
  refine AC.region ?_
  refine AO.yld _ (Yld.assign rfl) rfl rfl rfl ?_
  refine AO.nil ?_
  refine AC.seq ?_
  refine AC.region ?_
  refine AO.yld _ (Yld.move rfl) rfl rfl rfl ?_
  refine AO.yld _ (Yld.move rfl) rfl rfl rfl ?_
  refine AO.yld _ (Yld.call rfl rfl Tryd.call176 rfl rfl rfl (indexFuncVersion_c (by first | assumption | omega) hf hp) rfl) rfl rfl rfl ?_
  refine AO.yld _ (Yld.int rfl rfl rfl) rfl rfl rfl ?_
  refine AO.yld _ (Yld.assign rfl) rfl rfl rfl ?_
  refine AO.nil ?_
  refine Pure.ret Tryd.results138 (RVs.cons (RV.tmp rfl) RVs.nil) rfl ?_
  exact cb idx_any.symm

theorem headsOf1_c {x v : Ver} :
    Pure Tryd.prog 139 [.agg (encVer x), .ptr (encVer v)] (.v (.bool (x.parent == v.number))) := by
  refine Pure.intro Tryd.func139 rfl Tryd.ntmps139 rfl rfl (fun w => ?_)
  refine AC.seq ?_
  refine AC.region ?_
  refine AO.box 0 rfl rfl rfl rfl rfl ?_
  refine AO.yld _ (Yld.assign rfl) rfl rfl rfl ?_
  refine AO.nil ?_
  refine AC.seq ?_
  refine AC.region ?_
  refine AO.yld _ (Yld.fieldAddr Tryd.underlying74 rfl rfl Tryd.sizeOf2 rfl rfl rfl) rfl rfl rfl ?_
  refine AO.yld _ (Yld.load Tryd.isAgg2 rfl rfl) rfl rfl rfl ?_
  refine AO.yld _ (Yld.fieldAddr Tryd.underlying74 rfl rfl Tryd.sizeOf2 rfl rfl rfl) rfl rfl rfl ?_
  refine AO.yld _ (Yld.load Tryd.isAgg2 rfl rfl) rfl rfl rfl ?_
  refine AO.yld _ (Yld.int rfl rfl rfl) rfl rfl rfl ?_
  refine AO.yld _ (Yld.assign rfl) rfl rfl rfl ?_
  refine AO.nil ?_
  refine Pure.ret Tryd.results139 (RVs.cons (RV.tmp rfl) RVs.nil) rfl ?_
  refine cb ?_; by_cases h : x.parent = v.number <;> simp [h]

theorem impl_HeadsOf_c {xs : List Ver} (hg : VersGood xs) :
    FnE (α := Unit) Tryd.prog 65 [.p (.sl 4 (xs.map encVer))] [] [] (fun _ => True) (fun _ => .tup [.h 0, .p (.v (.int .i64 (headsOf xs).2))]) (fun _ => [(0, .vec 2 1 ((headsOf xs).1.map encI))]) := by
  have hn := hg.1
  have hM : (xs.map encVer).length = xs.length := List.length_map ..
  refine FnE.intro Tryd.func65 rfl Tryd.ntmps65 rfl rfl (fun w0 F0 η φ w => ?_)
  refine AC.seq ?_
  refine AC.region ?_
  refine AO.yld _ (Yld.assign rfl) rfl rfl rfl ?_
  refine AO.yld _ (Yld.assign rfl) rfl rfl rfl ?_
  refine AO.nil ?_
  refine AC.seq ?_
  refine AC.seq ?_
  refine AC.region ?_
  refine AO.yld _ (Yld.move rfl) rfl rfl rfl ?_
  refine AO.yld _ (Yld.call rfl rfl Tryd.call109 rfl rfl rfl (impl_ValidHistory_c (by assumption)) rfl) rfl rfl rfl ?_
  refine AO.yld _ (Yld.not rfl) rfl rfl rfl ?_
  refine AO.nil ?_
  refine AC.cond _ rfl (fun c9 => ?_) (fun c9 => ?_)
  · -- c9 True
    refine AC.seq ?_
    refine AC.region ?_
    refine AO.yld _ (Yld.assign rfl) rfl rfl rfl ?_
    refine AO.yld _ (Yld.assign rfl) rfl rfl rfl ?_
    refine AO.nil ?_
    refine AC.nilVec 2 0 2 1 rfl rfl ?_
    refine FnE.ret () [0] [0] Tryd.results65 (RVs.cons (RV.tmp rfl) (RVs.cons (RV.tmp rfl) RVs.nil)) rfl rfl rfl ?_ ?_ ⟨⟨_, rfl, ?_⟩, trivial⟩
    · -- holds
      trivial
    · -- value
      refine tupE ?_; first | (simp_all [headsOf]; done) | (simp only [headsOf, if_pos hok])
    · -- thing 0
      refine vecE ?_; first | (simp_all [headsOf]; done) | (simp only [headsOf, if_pos hok, headsTo_end])
  · -- c9 False
    have hok : okVers xs = true := by simpa using c9
    refine AC.skip ?_
    refine AC.seq ?_
    refine AC.region ?_
    refine AO.yld _ (Yld.assign rfl) rfl rfl rfl ?_
    refine AO.nil ?_
    refine AC.seq ?_
    refine AC.seq ?_
    refine AC.region ?_
    refine AO.yld _ (Yld.move rfl) rfl rfl rfl ?_
    refine AO.yld _ (Yld.len Tryd.underlying80 rfl rfl) rfl rfl rfl ?_
    refine AO.yld _ (Yld.move rfl) rfl rfl rfl ?_
    refine AO.nil ?_
    refine AC.block ?_
    refine AC.nilVec 4 0 2 1 rfl rfl ?_
    refine AC.loopC [(0, _), (2, _), (3, _), (10, _), (11, _)] [(900, _)] (fun (k : Nat) => [(12, .p (.v (.int .i64 (k : Int)))), (4, .h 0)]) (fun (k : Nat) => [(0, .vec 2 1 ((headsTo xs k).map encI))]) (fun (k : Nat) => k ≤ xs.length) (fun (k : Nat) => xs.length - k) 0 ⟨rfl, rfl, rfl, rfl, rfl, trivial⟩ ⟨rfl, trivial⟩ ⟨rfl, rfl, trivial⟩ ⟨rfl, trivial⟩ ?_ (fun k hJ => ?_)
    · exact Nat.zero_le _
    · -- round
      refine AC.seq ?_
      refine AC.region ?_
      refine AO.yld _ (Yld.int rfl rfl rfl) rfl rfl rfl ?_
      refine AO.nil ?_
      refine AC.seq ?_
      refine AC.cond _ rfl (fun c13 => ?_) (fun c13 => ?_)
      · -- c13 True
        have hk := lt_of_decM c13
        obtain ⟨x, hx⟩ := get_some hk
        have hrow := map_row (enc := encVer) hx
        refine AC.skip ?_
        refine AC.seq ?_
        refine AC.block ?_
        refine AC.seq ?_
        refine AC.region ?_
        refine AO.yld _ (Yld.indexSl Tryd.underlying80 Tryd.sizeOf74 rfl rfl hrow rfl) rfl rfl rfl ?_
        refine AO.yld _ (Yld.loadAgg Tryd.isAgg74 Tryd.sizeOf74 rfl rfl rfl rfl) rfl rfl rfl ?_
        refine AO.alloc 1 Tryd.zeroValue74 rfl rfl rfl ?_
        refine AO.store Tryd.sizeOf74 rfl rfl rfl rfl rfl rfl ?_
        refine AO.nil ?_
        refine AC.seq ?_
        refine AC.region ?_
        refine AO.yld _ (Yld.move rfl) rfl rfl rfl ?_
        refine AO.yld _ (Yld.makeFunc rfl) rfl rfl rfl ?_
        refine AO.yld _ (Yld.call rfl rfl Tryd.call138 rfl rfl rfl (containsFuncVersion_c (p := fun y => y.parent == x.number) (by omega) Tryd.call139 (fun y hy => headsOf1_c)) rfl) rfl rfl rfl ?_
        refine AO.yld _ (Yld.not rfl) rfl rfl rfl ?_
        refine AO.nil ?_
        refine AC.cond _ rfl (fun c19 => ?_) (fun c19 => ?_)
        · -- c19 True
          refine AC.region ?_
          refine AO.yld _ (Yld.move rfl) rfl rfl rfl ?_
          refine AO.yld _ (Yld.fieldAddr Tryd.underlying74 rfl rfl Tryd.sizeOf2 rfl rfl rfl) rfl rfl rfl ?_
          refine AO.yld _ (Yld.load Tryd.isAgg2 rfl rfl) rfl rfl rfl ?_
          refine AO.buildSlice (rows := [[_]]) 2 Tryd.underlying28 ty2 rfl rfl rfl rfl rfl rfl rfl rfl rfl ?_
          refine AO.append 0 Tryd.underlying28 ty2 rfl rfl rfl rfl rfl rfl rfl (by simp [pvOne]) (by have := headsTo_len xs k; simp only [List.length_map, List.length_cons, List.length_nil]; omega) (by have := headsTo_len xs k; simp only [List.length_map, List.length_cons, List.length_nil]; omega) rfl ?_
          refine AO.yld _ (Yld.assign rfl) rfl rfl rfl ?_
          refine AO.nil ?_
          refine AC.mark ?_
          refine AC.region ?_
          refine AO.yld _ (Yld.add rfl rfl (by omega) (by omega)) rfl rfl rfl ?_
          refine AO.yld _ (Yld.move rfl) rfl rfl rfl ?_
          refine AO.nil ?_
          refine AC.back ⟨k + 1, ?_, ?_, ⟨?_, ?_, trivial⟩, ⟨?_, trivial⟩, ⟨rfl, rfl, rfl, rfl, rfl, trivial⟩, ⟨rfl, trivial⟩⟩
          · exact hk
          · omega
          · rfl
          · rfl
          · first | (rw [headsTo_yes hx (by simpa [isHead] using c19), map_snoc]; rfl) | (rw [headsTo_no hx (by simpa [isHead] using c19)]; rfl)
        · -- c19 False
          refine AC.skip ?_
          refine AC.mark ?_
          refine AC.region ?_
          refine AO.yld _ (Yld.add rfl rfl (by omega) (by omega)) rfl rfl rfl ?_
          refine AO.yld _ (Yld.move rfl) rfl rfl rfl ?_
          refine AO.nil ?_
          refine AC.back ⟨k + 1, ?_, ?_, ⟨?_, ?_, trivial⟩, ⟨?_, trivial⟩, ⟨rfl, rfl, rfl, rfl, rfl, trivial⟩, ⟨rfl, trivial⟩⟩
          · exact hk
          · omega
          · rfl
          · rfl
          · first | (rw [headsTo_yes hx (by simpa [isHead] using c19), map_snoc]; rfl) | (rw [headsTo_no hx (by simpa [isHead] using c19)]; rfl)
      · -- c13 False
        obtain rfl : k = xs.length := by have := ge_of_decM c13; omega
        refine AC.exit rfl ?_
        refine AC.seq ?_
        refine AC.region ?_
        refine AO.yld _ (Yld.move rfl) rfl rfl rfl ?_
        refine AO.yld _ (Yld.assign rfl) rfl rfl rfl ?_
        refine AO.yld _ (Yld.assign rfl) rfl rfl rfl ?_
        refine AO.nil ?_
        refine FnE.ret () [0] [0] Tryd.results65 (RVs.cons (RV.tmp rfl) (RVs.cons (RV.tmp rfl) RVs.nil)) rfl rfl rfl ?_ ?_ ⟨⟨_, rfl, ?_⟩, trivial⟩
        · -- holds
          trivial
        · -- value
          refine tupE ?_; first | (simp_all [headsOf]; done) | (simp only [headsOf, if_pos hok])
        · -- thing 0
          refine vecE ?_; first | (simp_all [headsOf]; done) | (simp only [headsOf, if_pos hok, headsTo_end])

theorem cloneSetting_c {xs : List NV} (hn : xs.length ≤ 1048576) :
    FnE (α := Unit) Tryd.prog 131 [.p (.sl 2 (xs.map encNV))] [] [] (fun _ => True) (fun _ => .h 0) (fun _ => [(0, .vec 146 2 (xs.map encNV))]) := by
  refine FnE.intro Tryd.func131 rfl Tryd.ntmps131 rfl rfl (fun w0 F0 η φ w => ?_)
  refine AC.seq ?_
  refine AC.region ?_
  refine AO.yld _ (Yld.assign rfl) rfl rfl rfl ?_
  refine AO.nil ?_
  refine AC.seq ?_
  refine AC.seq ?_
  refine AC.region ?_
  refine AO.yld _ (Yld.move rfl) rfl rfl rfl ?_
  refine AO.eqNil Tryd.underlying72 rfl rfl rfl (fun z4 hz4 => ?_)
  refine AO.nil ?_
  refine AC.cond _ rfl (fun c4 => ?_) (fun c4 => ?_)
  · -- c4 True
    refine AC.seq ?_
    refine AC.region ?_
    refine AO.yld _ (Yld.assign rfl) rfl rfl rfl ?_
    refine AO.nil ?_
    refine AC.nilVec 2 0 146 2 rfl rfl ?_
    refine FnE.ret () [0] [0] Tryd.results131 (RVs.cons (RV.tmp rfl) RVs.nil) rfl rfl rfl ?_ ?_ ⟨⟨_, rfl, ?_⟩, trivial⟩
    · -- holds
      trivial
    · -- value
      rfl
    · -- thing 0
      first | rfl | (refine vecE ?_; first | rfl | (obtain rfl : xs = [] := List.eq_nil_of_length_eq_zero (by simpa using hz4 c4); rfl))
  · -- c4 False
    refine AC.skip ?_
    refine AC.seq ?_
    refine AC.region ?_
    refine AO.buildSlice (rows := []) 0 Tryd.underlying72 ty146 rfl rfl rfl rfl rfl rfl rfl rfl rfl ?_
    refine AO.yld _ (Yld.move rfl) rfl rfl rfl ?_
    refine AO.append 0 Tryd.underlying72 ty146 rfl rfl rfl rfl rfl rfl rfl (fun r hr q hq => by obtain ⟨y, _, rfl⟩ := List.mem_map.1 hr; simp only [encNV, List.mem_cons, List.not_mem_nil, or_false] at hq; rcases hq with rfl | rfl <;> rfl) (by simp only [List.length_map, List.length_cons, List.length_nil]; omega) (by simp only [List.length_map, List.length_cons, List.length_nil]; omega) rfl ?_
    refine AO.yld _ (Yld.assign rfl) rfl rfl rfl ?_
    refine AO.nil ?_
    refine FnE.ret () [0] [0] Tryd.results131 (RVs.cons (RV.tmp rfl) RVs.nil) rfl rfl rfl ?_ ?_ ⟨⟨_, rfl, ?_⟩, trivial⟩
    · -- holds
      trivial
    · -- value
      rfl
    · -- thing 0
      first | rfl | (refine vecE ?_; first | rfl | (obtain rfl : xs = [] := List.eq_nil_of_length_eq_zero (by simpa using hz4 c4); rfl))

theorem spec_l27Own_c {xs : List Ver} (hg : VersGood xs) :
    FnE (α := List Value) Tryd.prog 161 [.p (.sl 4 (xs.map encVer))] [] [] (fun vs => vs.length = xs.length) (fun vs => .h 0) (fun vs => [(0, .vec 74 4 (rowsV (xs.map verC) vs)), (1, .cust (poolC 146 2 (poolL vs (xs.map verI))))]) := by
  have hn := hg.1
  have hM : (xs.map encVer).length = xs.length := List.length_map ..
  refine FnE.intro Tryd.func161 rfl Tryd.ntmps161 rfl rfl (fun w0 F0 η φ w => ?_)
  refine AC.seq ?_
  refine AC.region ?_
  refine AO.yld _ (Yld.assign rfl) rfl rfl rfl ?_
  refine AO.nil ?_
  refine AC.seq ?_
  refine AC.region ?_
  refine AO.buildSlice (rows := []) 0 Tryd.underlying80 ty74 rfl rfl rfl rfl rfl rfl rfl rfl rfl ?_
  refine AO.yld _ (Yld.assign rfl) rfl rfl rfl ?_
  refine AO.nil ?_
  refine AC.seq ?_
  refine AC.seq ?_
  refine AC.region ?_
  refine AO.yld _ (Yld.assign rfl) rfl rfl rfl ?_
  refine AO.nil ?_
  refine AC.block ?_
  refine AC.poolNew 1 146 2 rfl ?_
  refine AC.loopC2 [(0, _), (2, _)] [(900, _)] (fun (k : Nat) (vs : List Value) => [(4, .p (.v (.int .i64 (k : Int)))), (3, .h 0)]) (fun (k : Nat) (vs : List Value) => [(1, .cust (poolC 146 2 (poolL vs ((xs.take k).map verI)))), (0, .vec 74 4 (rowsV ((xs.take k).map verC) vs))]) (fun (k : Nat) (vs : List Value) => k ≤ xs.length ∧ vs.length = k) (fun (k : Nat) (vs : List Value) => xs.length - k) 0 [] ⟨rfl, rfl, trivial⟩ ⟨rfl, trivial⟩ ⟨rfl, rfl, trivial⟩ ⟨rfl, rfl, trivial⟩ ?_ (fun k vs hJ => ?_)
  · exact ⟨Nat.zero_le _, rfl⟩
  · -- round
    refine AC.seq ?_
    refine AC.seq ?_
    refine AC.region ?_
    refine AO.yld _ (Yld.move rfl) rfl rfl rfl ?_
    refine AO.yld _ (Yld.move rfl) rfl rfl rfl ?_
    refine AO.yld _ (Yld.len Tryd.underlying80 rfl rfl) rfl rfl rfl ?_
    refine AO.yld _ (Yld.int rfl rfl rfl) rfl rfl rfl ?_
    refine AO.nil ?_
    refine AC.cond _ rfl (fun c10 => ?_) (fun c10 => ?_)
    · -- c10 True
      have hk := lt_of_decM c10
      obtain ⟨x, hx⟩ := get_some hk
      have hrow := map_row (enc := encVer) hx
      obtain ⟨g1, g2, g3⟩ := hg.2 x (List.mem_of_getElem? hx)
      have hrl := rowsT_len (xs := xs) hJ.2 hJ.1
      refine AC.skip ?_
      refine AC.seq ?_
      refine AC.block ?_
      refine AC.seq ?_
      refine AC.region ?_
      refine AO.yld _ (Yld.move rfl) rfl rfl rfl ?_
      refine AO.yld _ (Yld.move rfl) rfl rfl rfl ?_
      refine AO.yld _ (Yld.indexSl Tryd.underlying80 Tryd.sizeOf74 rfl rfl hrow rfl) rfl rfl rfl ?_
      refine AO.yld _ (Yld.loadAgg Tryd.isAgg74 Tryd.sizeOf74 rfl rfl rfl rfl) rfl rfl rfl ?_
      refine AO.alloc 2 Tryd.zeroValue74 rfl rfl rfl ?_
      refine AO.store Tryd.sizeOf74 rfl rfl rfl rfl rfl rfl ?_
      refine AO.nil ?_
      refine AC.seq ?_
      refine AC.region ?_
      refine AO.buildSlice (rows := []) 3 Tryd.underlying72 ty146 rfl rfl rfl rfl rfl rfl rfl rfl rfl ?_
      refine AO.yld _ (Yld.fieldAddr Tryd.underlying74 rfl rfl Tryd.sizeOf72 rfl rfl rfl) rfl rfl rfl ?_
      refine AO.yld _ (Yld.load Tryd.isAgg72 rfl rfl) rfl rfl rfl ?_
      refine AO.append 3 Tryd.underlying72 ty146 rfl rfl rfl rfl rfl rfl rfl (fun r hr q hq => by obtain ⟨y, _, rfl⟩ := List.mem_map.1 hr; simp only [encNV, List.mem_cons, List.not_mem_nil, or_false] at hq; rcases hq with rfl | rfl <;> rfl) (by simp only [List.length_map, List.length_cons, List.length_nil]; omega) (by simp only [List.length_map, List.length_cons, List.length_nil]; omega) rfl ?_
      refine AO.poolAdd 3 1 rfl rfl rfl (fun va vn vc => ?_)
      refine AO.yld _ (Yld.fieldAddr Tryd.underlying74 rfl rfl Tryd.sizeOf72 rfl rfl rfl) rfl rfl rfl ?_
      refine AO.store Tryd.sizeOf72 rfl rfl rfl rfl rfl rfl ?_
      refine AO.nil ?_
      refine AC.region ?_
      refine AO.yld _ (Yld.move rfl) rfl rfl rfl ?_
      refine AO.yld _ (Yld.loadAgg Tryd.isAgg74 Tryd.sizeOf74 rfl rfl rfl rfl) rfl rfl rfl ?_
      refine AO.buildSlice (rows := [[_, _, _, _]]) 4 Tryd.underlying80 ty74 rfl rfl rfl rfl rfl rfl rfl rfl rfl ?_
      refine AO.append 0 Tryd.underlying80 ty74 rfl rfl rfl rfl rfl rfl rfl (by simp [pvOne, str]) (by simp only [hrl, List.length_cons, List.length_nil]; omega) (by simp only [hrl, List.length_cons, List.length_nil]; omega) rfl ?_
      refine AO.yld _ (Yld.assign rfl) rfl rfl rfl ?_
      refine AO.nil ?_
      refine AC.mark ?_
      refine AC.region ?_
      refine AO.yld _ (Yld.move rfl) rfl rfl rfl ?_
      refine AO.yld _ (Yld.add rfl rfl (by omega) (by omega)) rfl rfl rfl ?_
      refine AO.yld _ (Yld.assign rfl) rfl rfl rfl ?_
      refine AO.nil ?_
      refine AC.back ⟨k + 1, vs ++ [.slice va vn vc], ?_, ?_, ⟨?_, ?_, trivial⟩, ⟨?_, ?_, trivial⟩, ⟨rfl, rfl, trivial⟩, ⟨rfl, trivial⟩⟩
      · exact ⟨hk, by simp [hJ.2]⟩
      · omega
      · rfl
      · rfl
      · rw [← pool_snoc hJ.2 hx]; rfl
      · rw [← rows_snoc hJ.2 hx]; rfl
    · -- c10 False
      obtain rfl : k = xs.length := by have := ge_of_decM c10; omega
      refine AC.exit rfl ?_
      refine AC.seq ?_
      refine AC.region ?_
      refine AO.yld _ (Yld.move rfl) rfl rfl rfl ?_
      refine AO.yld _ (Yld.assign rfl) rfl rfl rfl ?_
      refine AO.nil ?_
      refine FnE.ret vs [0, 1] [0, 1] Tryd.results161 (RVs.cons (RV.tmp rfl) RVs.nil) rfl rfl rfl ?_ ?_ ⟨⟨_, rfl, ?_⟩, ⟨_, rfl, ?_⟩, trivial⟩
      · -- holds
        exact hJ.2
      · -- value
        rfl
      · -- thing 0
        have h9 : rowsV ((xs.take xs.length).map verC) vs = rowsV (xs.map verC) vs := by rw [List.take_length]
        rw [h9]; rfl
      · -- thing 1
        have h9 : poolL vs ((xs.take xs.length).map verI) = poolL vs (xs.map verI) := by rw [List.take_length]
        rw [h9]; rfl

theorem spec_l27Add_c {xs : List Ver} {p : Int} {memo : List UInt8} {st : List NV} (hg : VersGood xs) (hst : st.length ≤ 1048576) :
    FnE (α := Unit) Tryd.prog 107 [.p (.sl 4 (xs.map encVer)), .p (.v (.int .i64 p)), .p (.v (str memo)), .p (.sl 2 (st.map encNV))] [] [] (fun _ => True) (fun _ => .tup [.h 0, .p (.v (.int .i64 (addV xs p memo st).2))]) (fun _ => [(0, .cust (nestC 74 4 146 2 (((addV xs p memo st).1).map verC) (((addV xs p memo st).1).map verI) (((addV xs p memo st).1).map encVer) ver_nest))]) := by
  have hn := hg.1
  have hM : (xs.map encVer).length = xs.length := List.length_map ..
  refine FnE.intro Tryd.func107 rfl Tryd.ntmps107 rfl rfl (fun w0 F0 η φ w => ?_)
  refine AC.seq ?_
  refine AC.region ?_
  refine AO.yld _ (Yld.assign rfl) rfl rfl rfl ?_
  refine AO.yld _ (Yld.assign rfl) rfl rfl rfl ?_
  refine AO.nil ?_
  refine AC.seq ?_
  refine AC.seq ?_
  refine AC.region ?_
  refine AO.yld _ (Yld.move rfl) rfl rfl rfl ?_
  refine AO.yld _ (Yld.len Tryd.underlying80 rfl rfl) rfl rfl rfl ?_
  refine AO.yld _ (Yld.int rfl rfl rfl) rfl rfl rfl ?_
  refine AO.nil ?_
  refine AC.cond _ rfl (fun c13 => ?_) (fun c13 => ?_)
  · -- c13 True
    have h32 : xs.length = 32 := by have h := c13; rw [hM] at h; simp at h; omega
    refine AC.seq ?_
    refine AC.region ?_
    refine AO.yld _ (Yld.assign rfl) rfl rfl rfl ?_
    refine AO.yld _ (Yld.assign rfl) rfl rfl rfl ?_
    refine AO.nil ?_
    refine AC.nilVec 8 0 74 4 rfl rfl ?_
    refine AC.poolNew 1 146 2 rfl ?_
    refine AC.nestJoin 0 1 (cs := ([] : List Ver).map verC) (ins := ([] : List Ver).map verI) (hV := ver_nest) (vs := []) rfl rfl rfl rfl rfl rfl rfl ?_
    refine FnE.ret () [0] [0] Tryd.results107 (RVs.cons (RV.tmp rfl) (RVs.cons (RV.tmp rfl) RVs.nil)) rfl rfl rfl ?_ ?_ ⟨⟨_, rfl, ?_⟩, trivial⟩
    · -- holds
      trivial
    · -- value
      refine tupE ?_; simp [addV, h32]
    · -- thing 0
      exact nestE (by simp [addV, h32])
  · -- c13 False
    have h32 : ¬ xs.length = 32 := by have h := c13; rw [hM] at h; simp at h; omega
    refine AC.skip ?_
    refine AC.seq ?_
    refine AC.region ?_
    refine AO.yld _ (Yld.move rfl) rfl rfl rfl ?_
    refine AO.yld _ (Yld.len Tryd.underlying80 rfl rfl) rfl rfl rfl ?_
    refine AO.yld _ (Yld.add rfl rfl (by omega) (by omega)) rfl rfl rfl ?_
    refine AO.yld _ (Yld.move rfl) rfl rfl rfl ?_
    refine AO.yld _ (Yld.move rfl) rfl rfl rfl ?_
    refine AO.buildSlice (rows := []) 0 Tryd.underlying72 ty146 rfl rfl rfl rfl rfl rfl rfl rfl rfl ?_
    refine AO.yld _ (Yld.move rfl) rfl rfl rfl ?_
    refine AO.append 0 Tryd.underlying72 ty146 rfl rfl rfl rfl rfl rfl rfl (fun r hr q hq => by obtain ⟨y, _, rfl⟩ := List.mem_map.1 hr; simp only [encNV, List.mem_cons, List.not_mem_nil, or_false] at hq; rcases hq with rfl | rfl <;> rfl) (by simp only [List.length_map, List.length_cons, List.length_nil]; omega) (by simp only [List.length_map, List.length_cons, List.length_nil]; omega) rfl ?_
    refine AO.poolNew 1 146 2 rfl ?_
    refine AO.poolAdd 0 1 rfl rfl rfl (fun va vn vc => ?_)
    refine AO.yld _ (Yld.buildA (zs := [.v (.int .i64 0), .v (.int .i64 0), .v (str []), .sl 0 []]) bld74 rfl rfl) rfl rfl rfl ?_
    refine AO.alloc 2 Tryd.zeroValue74 rfl rfl rfl ?_
    refine AO.store Tryd.sizeOf74 rfl rfl rfl rfl rfl rfl ?_
    refine AO.nil ?_
    refine AC.seq ?_
    apply AC.drawAnyC (α := { vs : List Value // vs.length = xs.length }) [(0, _), (1, _), (2, _), (3, _), (10, _), (11, _), (12, _), (13, _), (14, _), (15, _), (16, _), (17, _), (18, _), (19, _), (20, _), (21, _), (22, _)] [(1, _), (2, _), (900, _)] (fun y => [(8, .h 3), (9, .p (.v (.int .i64 0)))]) (fun y => [(3, .vec 74 4 (rowsV (xs.map verC) y.1 ++ [verC (newVer xs p memo st) ++ [.v (.slice va vn vc)]])), (4, .cust (poolC 146 2 (poolL y.1 (xs.map verI))))]) (by kernel_rfl)
    · -- orders
      refine ANx.take 0 rfl (by kernel_rfl) (by kernel_rfl) (by kernel_rfl) rfl rfl rfl (YldA.move rfl) ?_
      refine ANx.all (rs := [1, 2]) (by kernel_rfl) rfl ⟨?_, ?_, trivial⟩
      · -- 1
        refine Stpx.effX rfl rfl (EffX.callW [3, 4] [] [0, 1] rfl rfl Tryd.call161 rfl (spec_l27Own_c (by assumption)) (.own rfl) rfl (fun _ => rfl) trivial rfl (fun _ => rfl) (fun _ => rfl)) ?_
        rintro _ ⟨x24, hx24, rfl⟩
        refine ANx.all (rs := [2]) (by kernel_rfl) rfl ⟨?_, trivial⟩
        refine Stpx.eff rfl rfl (Eff.yld (Yld.loadAgg Tryd.isAgg74 Tryd.sizeOf74 rfl rfl rfl rfl) rfl rfl) ?_
        refine ANx.all (rs := [3]) (by kernel_rfl) rfl ⟨?_, trivial⟩
        refine Stpx.eff rfl rfl (Eff.buildSlice (rows := [[_, _, _, _]]) 5 Tryd.underlying80 ty74 rfl rfl rfl rfl rfl rfl rfl rfl rfl) ?_
        refine ANx.all (rs := [4]) (by kernel_rfl) rfl ⟨?_, trivial⟩
        refine Stpx.eff rfl rfl (Eff.append 3 Tryd.underlying80 ty74 rfl rfl rfl rfl rfl rfl rfl (by simp [pvOne, str]) (by simp only [rowsV_len (xs := xs) (by assumption), List.length_cons, List.length_nil]; omega) (by simp only [rowsV_len (xs := xs) (by assumption), List.length_cons, List.length_nil]; omega) rfl) ?_
        refine ANx.take 5 rfl (by kernel_rfl) (by kernel_rfl) (by kernel_rfl) rfl rfl rfl (YldA.assign rfl) ?_
        refine ANx.take 6 rfl (by kernel_rfl) (by kernel_rfl) (by kernel_rfl) rfl rfl rfl (YldA.assign rfl) ?_
        exact ANx.doneC ⟨x24, hx24⟩ (by kernel_rfl) ⟨rfl, rfl, trivial⟩ ⟨rfl, rfl, trivial⟩ ⟨rfl, rfl, rfl, rfl, rfl, rfl, rfl, rfl, rfl, rfl, rfl, rfl, rfl, rfl, rfl, rfl, rfl, trivial⟩ ⟨rfl, rfl, rfl, trivial⟩
      · -- 2
        refine Stpx.eff rfl rfl (Eff.yld (Yld.loadAgg Tryd.isAgg74 Tryd.sizeOf74 rfl rfl rfl rfl) rfl rfl) ?_
        refine ANx.all (rs := [1, 3]) (by kernel_rfl) rfl ⟨?_, ?_, trivial⟩
        · -- 1
          refine Stpx.effX rfl rfl (EffX.callW [3, 4] [] [0, 1] rfl rfl Tryd.call161 rfl (spec_l27Own_c (by assumption)) (.own rfl) rfl (fun _ => rfl) trivial rfl (fun _ => rfl) (fun _ => rfl)) ?_
          rintro _ ⟨x24, hx24, rfl⟩
          refine ANx.all (rs := [3]) (by kernel_rfl) rfl ⟨?_, trivial⟩
          refine Stpx.eff rfl rfl (Eff.buildSlice (rows := [[_, _, _, _]]) 5 Tryd.underlying80 ty74 rfl rfl rfl rfl rfl rfl rfl rfl rfl) ?_
          refine ANx.all (rs := [4]) (by kernel_rfl) rfl ⟨?_, trivial⟩
          refine Stpx.eff rfl rfl (Eff.append 3 Tryd.underlying80 ty74 rfl rfl rfl rfl rfl rfl rfl (by simp [pvOne, str]) (by simp only [rowsV_len (xs := xs) (by assumption), List.length_cons, List.length_nil]; omega) (by simp only [rowsV_len (xs := xs) (by assumption), List.length_cons, List.length_nil]; omega) rfl) ?_
          refine ANx.take 5 rfl (by kernel_rfl) (by kernel_rfl) (by kernel_rfl) rfl rfl rfl (YldA.assign rfl) ?_
          refine ANx.take 6 rfl (by kernel_rfl) (by kernel_rfl) (by kernel_rfl) rfl rfl rfl (YldA.assign rfl) ?_
          exact ANx.doneC ⟨x24, hx24⟩ (by kernel_rfl) ⟨rfl, rfl, trivial⟩ ⟨rfl, rfl, trivial⟩ ⟨rfl, rfl, rfl, rfl, rfl, rfl, rfl, rfl, rfl, rfl, rfl, rfl, rfl, rfl, rfl, rfl, rfl, trivial⟩ ⟨rfl, rfl, rfl, trivial⟩
        · -- 3
          refine Stpx.eff rfl rfl (Eff.buildSlice (rows := [[_, _, _, _]]) 5 Tryd.underlying80 ty74 rfl rfl rfl rfl rfl rfl rfl rfl rfl) ?_
          refine ANx.all (rs := [1]) (by kernel_rfl) rfl ⟨?_, trivial⟩
          refine Stpx.effX rfl rfl (EffX.callW [3, 4] [] [0, 1] rfl rfl Tryd.call161 rfl (spec_l27Own_c (by assumption)) (.own rfl) rfl (fun _ => rfl) trivial rfl (fun _ => rfl) (fun _ => rfl)) ?_
          rintro _ ⟨x24, hx24, rfl⟩
          refine ANx.all (rs := [4]) (by kernel_rfl) rfl ⟨?_, trivial⟩
          refine Stpx.eff rfl rfl (Eff.append 3 Tryd.underlying80 ty74 rfl rfl rfl rfl rfl rfl rfl (by simp [pvOne, str]) (by simp only [rowsV_len (xs := xs) (by assumption), List.length_cons, List.length_nil]; omega) (by simp only [rowsV_len (xs := xs) (by assumption), List.length_cons, List.length_nil]; omega) rfl) ?_
          refine ANx.take 5 rfl (by kernel_rfl) (by kernel_rfl) (by kernel_rfl) rfl rfl rfl (YldA.assign rfl) ?_
          refine ANx.take 6 rfl (by kernel_rfl) (by kernel_rfl) (by kernel_rfl) rfl rfl rfl (YldA.assign rfl) ?_
          exact ANx.doneC ⟨x24, hx24⟩ (by kernel_rfl) ⟨rfl, rfl, trivial⟩ ⟨rfl, rfl, trivial⟩ ⟨rfl, rfl, rfl, rfl, rfl, rfl, rfl, rfl, rfl, rfl, rfl, rfl, rfl, rfl, rfl, rfl, rfl, trivial⟩ ⟨rfl, rfl, rfl, trivial⟩
    · -- behind
      rintro ⟨vs, hvs⟩
      dsimp only
      refine AC.poolMerge 4 1 rfl rfl rfl ?_
      refine AC.nestJoin 3 4 (cs := (xs ++ [newVer xs p memo st]).map verC) (ins := (xs ++ [newVer xs p memo st]).map verI) (hV := ver_nest) (vs := vs ++ [.slice va vn vc]) rfl rfl rfl (by exact rows_add (y := newVer xs p memo st) (v := .slice va vn vc) hvs) (by exact pool_add (y := newVer xs p memo st) (v := .slice va vn vc) hvs) (by simp [hvs]) (by simp) ?_
      refine FnE.ret () [3] [0] Tryd.results107 (RVs.cons (RV.tmp rfl) (RVs.cons (RV.tmp rfl) RVs.nil)) rfl rfl rfl ?_ ?_ ⟨⟨_, rfl, ?_⟩, trivial⟩
      · -- holds
        trivial
      · -- value
        refine tupE ?_; simp [addV, h32]
      · -- thing 0
        exact nestE (by simp [addV, h32])

theorem impl_addVersion_c {xs : List Ver} {p : Int} {memo : List UInt8} {st : List NV} (hg : VersGood xs) (hst : st.length ≤ 1048576) :
    FnE (α := Unit) Tryd.prog 110 [.p (.sl 4 (xs.map encVer)), .p (.v (.int .i64 p)), .p (.v (str memo)), .p (.sl 2 (st.map encNV))] [] [] (fun _ => True) (fun _ => .tup [.h 0, .p (.v (.int .i64 (addV xs p memo st).2))]) (fun _ => [(0, .cust (nestC 74 4 146 2 (((addV xs p memo st).1).map verC) (((addV xs p memo st).1).map verI) (((addV xs p memo st).1).map encVer) ver_nest))]) := by
  have hn := hg.1
  have hM : (xs.map encVer).length = xs.length := List.length_map ..
  refine FnE.intro Tryd.func110 rfl Tryd.ntmps110 rfl rfl (fun w0 F0 η φ w => ?_)
  refine AC.seq ?_
  refine AC.region ?_
  refine AO.yld _ (Yld.assign rfl) rfl rfl rfl ?_
  refine AO.yld _ (Yld.assign rfl) rfl rfl rfl ?_
  refine AO.nil ?_
  refine AC.seq ?_
  refine AC.seq ?_
  refine AC.region ?_
  refine AO.yld _ (Yld.move rfl) rfl rfl rfl ?_
  refine AO.yld _ (Yld.len Tryd.underlying80 rfl rfl) rfl rfl rfl ?_
  refine AO.yld _ (Yld.int rfl rfl rfl) rfl rfl rfl ?_
  refine AO.nil ?_
  refine AC.cond _ rfl (fun c15 => ?_) (fun c15 => ?_)
  · -- c15 True
    have h32 : xs.length = 32 := by have h := c15; rw [hM] at h; simp at h; omega
    refine AC.seq ?_
    refine AC.region ?_
    refine AO.yld _ (Yld.assign rfl) rfl rfl rfl ?_
    refine AO.yld _ (Yld.assign rfl) rfl rfl rfl ?_
    refine AO.nil ?_
    refine AC.nilVec 8 0 74 4 rfl rfl ?_
    refine AC.poolNew 1 146 2 rfl ?_
    refine AC.nestJoin 0 1 (cs := ([] : List Ver).map verC) (ins := ([] : List Ver).map verI) (hV := ver_nest) (vs := []) rfl rfl rfl rfl rfl rfl rfl ?_
    refine FnE.ret () [0] [0] Tryd.results110 (RVs.cons (RV.tmp rfl) (RVs.cons (RV.tmp rfl) RVs.nil)) rfl rfl rfl ?_ ?_ ⟨⟨_, rfl, ?_⟩, trivial⟩
    · -- holds
      trivial
    · -- value
      refine tupE ?_; simp [addV, h32]
    · -- thing 0
      exact nestE (by simp [addV, h32])
  · -- c15 False
    have h32 : ¬ xs.length = 32 := by have h := c15; rw [hM] at h; simp at h; omega
    refine AC.skip ?_
    refine AC.seq ?_
    refine AC.region ?_
    refine AO.yld _ (Yld.move rfl) rfl rfl rfl ?_
    refine AO.yld _ (Yld.len Tryd.underlying80 rfl rfl) rfl rfl rfl ?_
    refine AO.yld _ (Yld.move rfl) rfl rfl rfl ?_
    refine AO.yld _ (Yld.len Tryd.underlying80 rfl rfl) rfl rfl rfl ?_
    refine AO.yld _ (Yld.add rfl rfl (by omega) (by omega)) rfl rfl rfl ?_
    refine AO.make (m := (xs.map encVer).length + 1) 0 Tryd.underlying80 ty74 rfl rfl rfl rfl rfl (Nat.le_succ _) (by rw [hM]; omega) (by rw [hM]; omega) rfl rfl ?_
    refine AO.yld _ (Yld.assign rfl) rfl rfl rfl ?_
    refine AO.nil ?_
    refine AC.seq ?_
    refine AC.seq ?_
    refine AC.region ?_
    refine AO.yld _ (Yld.move rfl) rfl rfl rfl ?_
    refine AO.yld _ (Yld.len Tryd.underlying80 rfl rfl) rfl rfl rfl ?_
    refine AO.yld _ (Yld.move rfl) rfl rfl rfl ?_
    refine AO.nil ?_
    refine AC.block ?_
    refine AC.poolNew 1 146 2 rfl ?_
    refine AC.loopC2 [(0, _), (1, _), (2, _), (3, _), (8, _), (9, _), (10, _), (22, _), (23, _)] [(900, _)] (fun (k : Nat) (vs : List Value) => [(24, .p (.v (.int .i64 (k : Int)))), (10, .h 0)]) (fun (k : Nat) (vs : List Value) => [(0, .vec 74 4 (nfill [.v (.int .i64 0), .v (.int .i64 0), .v (.string ⟨#[]⟩), .sl 0 []] xs vs)), (1, .cust (poolC 146 2 (poolL vs ((xs.take k).map verI))))]) (fun (k : Nat) (vs : List Value) => k ≤ xs.length ∧ vs.length = k) (fun (k : Nat) (vs : List Value) => xs.length - k) 0 [] ⟨rfl, rfl, rfl, rfl, rfl, rfl, rfl, rfl, rfl, trivial⟩ ⟨rfl, trivial⟩ ⟨rfl, rfl, trivial⟩ ⟨by rw [nfill_zero, ← hM]; rfl, rfl, trivial⟩ ?_ (fun k vs hJ => ?_)
    · exact ⟨Nat.zero_le _, rfl⟩
    · -- round
      refine AC.seq ?_
      refine AC.region ?_
      refine AO.yld _ (Yld.int rfl rfl rfl) rfl rfl rfl ?_
      refine AO.nil ?_
      refine AC.seq ?_
      refine AC.cond _ rfl (fun c25 => ?_) (fun c25 => ?_)
      · -- c25 True
        have hk := lt_of_decM c25
        obtain ⟨x, hx⟩ := get_some hk
        have hrow := map_row (enc := encVer) hx
        obtain ⟨g1, g2, g3⟩ := hg.2 x (List.mem_of_getElem? hx)
        refine AC.skip ?_
        refine AC.seq ?_
        refine AC.block ?_
        refine AC.seq ?_
        refine AC.region ?_
        refine AO.yld _ (Yld.move rfl) rfl rfl rfl ?_
        refine AO.yld _ (Yld.indexSl Tryd.underlying80 Tryd.sizeOf74 rfl rfl hrow rfl) rfl rfl rfl ?_
        refine AO.yld _ (Yld.loadAgg Tryd.isAgg74 Tryd.sizeOf74 rfl rfl rfl rfl) rfl rfl rfl ?_
        refine AO.alloc 2 Tryd.zeroValue74 rfl rfl rfl ?_
        refine AO.yld _ (Yld.assign rfl) rfl rfl rfl ?_
        refine AO.store Tryd.sizeOf74 rfl rfl rfl rfl rfl rfl ?_
        refine AO.nil ?_
        refine AC.seq ?_
        refine AC.region ?_
        refine AO.yld _ (Yld.fieldAddr Tryd.underlying74 rfl rfl Tryd.sizeOf72 rfl rfl rfl) rfl rfl rfl ?_
        refine AO.yld _ (Yld.load Tryd.isAgg72 rfl rfl) rfl rfl rfl ?_
        refine AO.callW (wantedN rfl) [3] [] [0] rfl rfl Tryd.call131 rfl (cloneSetting_c (by first | assumption | omega)) (.flat (.view rfl rfl .nil) (fun _ => by simp [AV.Flat, AV.FlatL, PV.Flat, PV.FlatL]) (fun _ => ⟨flat_map flatNV _, trivial⟩)) rfl (fun _ => rfl) trivial rfl (fun _ => rfl) (fun _ => rfl) (fun _ _ => ?_)
        refine AO.poolAdd 3 1 rfl rfl rfl (fun va vn vc => ?_)
        refine AO.yld _ (Yld.fieldAddr Tryd.underlying74 rfl rfl Tryd.sizeOf72 rfl rfl rfl) rfl rfl rfl ?_
        refine AO.store Tryd.sizeOf72 rfl rfl rfl rfl rfl rfl ?_
        refine AO.nil ?_
        refine AC.region ?_
        refine AO.yld _ (Yld.move rfl) rfl rfl rfl ?_
        refine AO.yld _ (Yld.move rfl) rfl rfl rfl ?_
        refine AO.yld _ (Yld.loadAgg Tryd.isAgg74 Tryd.sizeOf74 rfl rfl rfl rfl) rfl rfl rfl ?_
        refine AO.yld _ (Yld.indexVec Tryd.underlying80 Tryd.sizeOf74 rfl rfl rfl rfl (by rw [nfill_length (by omega)]; exact hk)) rfl rfl rfl ?_
        refine AO.store Tryd.sizeOf74 rfl rfl rfl rfl rfl (store_el rfl (nfill_get hJ.2 hk) rfl rfl) ?_
        refine AO.nil ?_
        refine AC.mark ?_
        refine AC.region ?_
        refine AO.yld _ (Yld.add rfl rfl (by omega) (by omega)) rfl rfl rfl ?_
        refine AO.yld _ (Yld.move rfl) rfl rfl rfl ?_
        refine AO.nil ?_
        refine AC.back ⟨k + 1, vs ++ [.slice va vn vc], ?_, ?_, ⟨?_, ?_, trivial⟩, ⟨?_, ?_, trivial⟩, ⟨rfl, rfl, rfl, rfl, rfl, rfl, rfl, rfl, rfl, trivial⟩, ⟨rfl, trivial⟩⟩
        · exact ⟨hk, by simp [hJ.2]⟩
        · omega
        · rfl
        · rfl
        · rw [← nfill_set hJ.2 hx]; rfl
        · rw [← pool_snoc hJ.2 hx]; rfl
      · -- c25 False
        obtain rfl : k = xs.length := by have := ge_of_decM c25; omega
        refine AC.exit rfl ?_
        refine AC.seq ?_
        refine AC.region ?_
        refine AO.yld _ (Yld.move rfl) rfl rfl rfl ?_
        refine AO.yld _ (Yld.move rfl) rfl rfl rfl ?_
        refine AO.yld _ (Yld.len Tryd.underlying80 rfl rfl) rfl rfl rfl ?_
        refine AO.yld _ (Yld.add rfl rfl (by omega) (by omega)) rfl rfl rfl ?_
        refine AO.yld _ (Yld.move rfl) rfl rfl rfl ?_
        refine AO.yld _ (Yld.move rfl) rfl rfl rfl ?_
        refine AO.yld _ (Yld.move rfl) rfl rfl rfl ?_
        refine AO.callW (wantedN rfl) [2] [] [0] rfl rfl Tryd.call131 rfl (cloneSetting_c (by first | assumption | omega)) (.flat (.view rfl rfl .nil) (fun _ => by simp [AV.Flat, AV.FlatL, PV.Flat, PV.FlatL]) (fun _ => ⟨flat_map flatNV _, trivial⟩)) rfl (fun _ => rfl) trivial rfl (fun _ => rfl) (fun _ => rfl) (fun _ _ => ?_)
        refine AO.poolAdd 2 1 rfl rfl rfl (fun wa wn wc => ?_)
        refine AO.yld _ (Yld.buildA (zs := [.v (.int .i64 0), .v (.int .i64 0), .v (str []), .sl 0 []]) bld74 rfl rfl) rfl rfl rfl ?_
        refine AO.buildSlice (rows := [[_, _, _, _]]) 3 Tryd.underlying80 ty74 rfl rfl rfl rfl rfl rfl rfl rfl rfl ?_
        refine AO.append 0 Tryd.underlying80 ty74 rfl rfl rfl rfl rfl rfl rfl (by simp [pvOne, str]) (by simp only [nfill_length (vs := vs) (xs := xs) (by omega), List.length_cons, List.length_nil]; omega) (by simp only [nfill_length (vs := vs) (xs := xs) (by omega), List.length_cons, List.length_nil]; omega) rfl ?_
        refine AO.yld _ (Yld.assign rfl) rfl rfl rfl ?_
        refine AO.yld _ (Yld.assign rfl) rfl rfl rfl ?_
        refine AO.nil ?_
        refine AC.nestJoin 0 1 (cs := (xs ++ [newVer xs p memo st]).map verC) (ins := (xs ++ [newVer xs p memo st]).map verI) (hV := ver_nest) (vs := vs ++ [.slice wa wn wc]) rfl rfl rfl (by rw [nfill_end hJ.2]; exact rows_add (y := newVer xs p memo st) (v := .slice wa wn wc) hJ.2) (by rw [List.take_length]; exact pool_add (y := newVer xs p memo st) (v := .slice wa wn wc) hJ.2) (by simp [hJ.2]) (by simp) ?_
        refine FnE.ret () [0] [0] Tryd.results110 (RVs.cons (RV.tmp rfl) (RVs.cons (RV.tmp rfl) RVs.nil)) rfl rfl rfl ?_ ?_ ⟨⟨_, rfl, ?_⟩, trivial⟩
        · -- holds
          trivial
        · -- value
          refine tupE ?_; simp [addV, h32]
        · -- thing 0
          exact nestE (by simp [addV, h32])

theorem impl_CommitState_c {xs : List Ver} {p : Int} {memo : List UInt8} {st : List NV} (hg : VersGood xs) (hst : st.length ≤ 1048576) (hmm : memo.length ≤ 1048576) (hsn : ∀ s ∈ st, s.name.length ≤ 1048576) :
    FnE (α := Unit) Tryd.prog 63 [.p (.sl 4 (xs.map encVer)), .p (.v (.int .i64 p)), .p (.v (str memo)), .p (.sl 2 (st.map encNV))] [] [] (fun _ => True) (fun _ => .tup [.h 0, .p (.v (.int .i64 (commitState xs p memo st).2))]) (fun _ => [(0, .cust (nestC 74 4 146 2 (((commitState xs p memo st).1).map verC) (((commitState xs p memo st).1).map verI) (((commitState xs p memo st).1).map encVer) ver_nest))]) := by
  have hn := hg.1
  have hM : (xs.map encVer).length = xs.length := List.length_map ..
  refine FnE.intro Tryd.func63 rfl Tryd.ntmps63 rfl rfl (fun w0 F0 η φ w => ?_)
  refine AC.seq ?_
  refine AC.region ?_
  refine AO.yld _ (Yld.assign rfl) rfl rfl rfl ?_
  refine AO.yld _ (Yld.assign rfl) rfl rfl rfl ?_
  refine AO.nil ?_
  refine AC.seq ?_
  refine AC.seq ?_
  refine AC.region ?_
  refine AO.yld _ (Yld.move rfl) rfl rfl rfl ?_
  refine AO.yld _ (Yld.call rfl rfl Tryd.call109 rfl rfl rfl (impl_ValidHistory_c (by assumption)) rfl) rfl rfl rfl ?_
  refine AO.yld _ (Yld.not rfl) rfl rfl rfl ?_
  refine AO.yld _ (Yld.move rfl) rfl rfl rfl ?_
  refine AO.splitAt 13 _ rfl (fun s13 => ?_) (fun s13 => ?_)
  · -- s13 True
    refine AO.skipF rfl rfl rfl rfl rfl ?_
    refine AO.skipF rfl rfl rfl rfl rfl ?_
    refine AO.skipF rfl rfl rfl rfl rfl ?_
    refine AO.yld _ (Yld.pickT rfl rfl) rfl rfl rfl ?_
    refine AO.yld _ (Yld.move rfl) rfl rfl rfl ?_
    refine AO.skipF rfl rfl rfl rfl rfl ?_
    refine AO.skipF rfl rfl rfl rfl rfl ?_
    refine AO.skipF rfl rfl rfl rfl rfl ?_
    refine AO.yld _ (Yld.pickT rfl rfl) rfl rfl rfl ?_
    refine AO.nil ?_
    refine AC.condT rfl ?_
    refine AC.seq ?_
    refine AC.region ?_
    refine AO.yld _ (Yld.assign rfl) rfl rfl rfl ?_
    refine AO.yld _ (Yld.assign rfl) rfl rfl rfl ?_
    refine AO.nil ?_
    refine AC.nilVec 8 0 74 4 rfl rfl ?_
    refine AC.poolNew 1 146 2 rfl ?_
    refine AC.nestJoin 0 1 (cs := ([] : List Ver).map verC) (ins := ([] : List Ver).map verI) (hV := ver_nest) (vs := []) rfl rfl rfl rfl rfl rfl rfl ?_
    refine FnE.ret () [0] [0] Tryd.results63 (RVs.cons (RV.tmp rfl) (RVs.cons (RV.tmp rfl) RVs.nil)) rfl rfl rfl ?_ ?_ ⟨⟨_, rfl, ?_⟩, trivial⟩
    · -- holds
      trivial
    · -- value
      refine tupE ?_; (try simp only [hM] at *); unfold commitState; clear hg hsn; first | (simp_all [inVers]; done) | grind [inVers]
    · -- thing 0
      exact nestE (by (try simp only [hM] at *); unfold commitState; clear hg hsn; first | (simp_all [inVers]; done) | grind [inVers])
  · -- s13 False
    refine AO.yldG _ (Yld.move rfl) rfl rfl rfl rfl rfl ?_
    refine AO.yldG _ (Yld.call rfl rfl Tryd.call102 rfl rfl rfl (impl_validMemo_c (by first | assumption | omega)) rfl) rfl rfl rfl rfl rfl ?_
    refine AO.yldG _ (Yld.not rfl) rfl rfl rfl rfl rfl ?_
    refine AO.yld _ (Yld.pickF rfl rfl) rfl rfl rfl ?_
    refine AO.yld _ (Yld.move rfl) rfl rfl rfl ?_
    refine AO.splitAt 18 _ rfl (fun s18 => ?_) (fun s18 => ?_)
    · -- s18 True
      refine AO.skipF rfl rfl rfl rfl rfl ?_
      refine AO.skipF rfl rfl rfl rfl rfl ?_
      refine AO.skipF rfl rfl rfl rfl rfl ?_
      refine AO.yld _ (Yld.pickT rfl rfl) rfl rfl rfl ?_
      refine AO.nil ?_
      refine AC.condT rfl ?_
      refine AC.seq ?_
      refine AC.region ?_
      refine AO.yld _ (Yld.assign rfl) rfl rfl rfl ?_
      refine AO.yld _ (Yld.assign rfl) rfl rfl rfl ?_
      refine AO.nil ?_
      refine AC.nilVec 8 0 74 4 rfl rfl ?_
      refine AC.poolNew 1 146 2 rfl ?_
      refine AC.nestJoin 0 1 (cs := ([] : List Ver).map verC) (ins := ([] : List Ver).map verI) (hV := ver_nest) (vs := []) rfl rfl rfl rfl rfl rfl rfl ?_
      refine FnE.ret () [0] [0] Tryd.results63 (RVs.cons (RV.tmp rfl) (RVs.cons (RV.tmp rfl) RVs.nil)) rfl rfl rfl ?_ ?_ ⟨⟨_, rfl, ?_⟩, trivial⟩
      · -- holds
        trivial
      · -- value
        refine tupE ?_; (try simp only [hM] at *); unfold commitState; clear hg hsn; first | (simp_all [inVers]; done) | grind [inVers]
      · -- thing 0
        exact nestE (by (try simp only [hM] at *); unfold commitState; clear hg hsn; first | (simp_all [inVers]; done) | grind [inVers])
    · -- s18 False
      refine AO.yldG _ (Yld.move rfl) rfl rfl rfl rfl rfl ?_
      refine AO.yldG _ (Yld.call rfl rfl Tryd.call103 rfl rfl rfl (impl_ValidState_c (by first | assumption | omega) (by assumption)) rfl) rfl rfl rfl rfl rfl ?_
      refine AO.yldG _ (Yld.not rfl) rfl rfl rfl rfl rfl ?_
      refine AO.yld _ (Yld.pickF rfl rfl) rfl rfl rfl ?_
      refine AO.nil ?_
      refine AC.cond _ rfl (fun c22 => ?_) (fun c22 => ?_)
      · -- c22 True
        refine AC.seq ?_
        refine AC.region ?_
        refine AO.yld _ (Yld.assign rfl) rfl rfl rfl ?_
        refine AO.yld _ (Yld.assign rfl) rfl rfl rfl ?_
        refine AO.nil ?_
        refine AC.nilVec 8 0 74 4 rfl rfl ?_
        refine AC.poolNew 1 146 2 rfl ?_
        refine AC.nestJoin 0 1 (cs := ([] : List Ver).map verC) (ins := ([] : List Ver).map verI) (hV := ver_nest) (vs := []) rfl rfl rfl rfl rfl rfl rfl ?_
        refine FnE.ret () [0] [0] Tryd.results63 (RVs.cons (RV.tmp rfl) (RVs.cons (RV.tmp rfl) RVs.nil)) rfl rfl rfl ?_ ?_ ⟨⟨_, rfl, ?_⟩, trivial⟩
        · -- holds
          trivial
        · -- value
          refine tupE ?_; (try simp only [hM] at *); unfold commitState; clear hg hsn; first | (simp_all [inVers]; done) | grind [inVers]
        · -- thing 0
          exact nestE (by (try simp only [hM] at *); unfold commitState; clear hg hsn; first | (simp_all [inVers]; done) | grind [inVers])
      · -- c22 False
        refine AC.skip ?_
        refine AC.seq ?_
        refine AC.seq ?_
        refine AC.region ?_
        refine AO.yld _ (Yld.move rfl) rfl rfl rfl ?_
        refine AO.yld _ (Yld.move rfl) rfl rfl rfl ?_
        refine AO.yld _ (Yld.len Tryd.underlying80 rfl rfl) rfl rfl rfl ?_
        refine AO.yld _ (Yld.call rfl rfl Tryd.call80 rfl rfl rfl (impl_within_c) rfl) rfl rfl rfl ?_
        refine AO.yld _ (Yld.not rfl) rfl rfl rfl ?_
        refine AO.nil ?_
        refine AC.cond _ rfl (fun c27 => ?_) (fun c27 => ?_)
        · -- c27 True
          refine AC.seq ?_
          refine AC.region ?_
          refine AO.yld _ (Yld.assign rfl) rfl rfl rfl ?_
          refine AO.yld _ (Yld.assign rfl) rfl rfl rfl ?_
          refine AO.nil ?_
          refine AC.nilVec 8 0 74 4 rfl rfl ?_
          refine AC.poolNew 1 146 2 rfl ?_
          refine AC.nestJoin 0 1 (cs := ([] : List Ver).map verC) (ins := ([] : List Ver).map verI) (hV := ver_nest) (vs := []) rfl rfl rfl rfl rfl rfl rfl ?_
          refine FnE.ret () [0] [0] Tryd.results63 (RVs.cons (RV.tmp rfl) (RVs.cons (RV.tmp rfl) RVs.nil)) rfl rfl rfl ?_ ?_ ⟨⟨_, rfl, ?_⟩, trivial⟩
          · -- holds
            trivial
          · -- value
            refine tupE ?_; (try simp only [hM] at *); unfold commitState; clear hg hsn; first | (simp_all [inVers]; done) | grind [inVers]
          · -- thing 0
            exact nestE (by (try simp only [hM] at *); unfold commitState; clear hg hsn; first | (simp_all [inVers]; done) | grind [inVers])
        · -- c27 False
          refine AC.skip ?_
          refine AC.seq ?_
          refine AC.region ?_
          refine AO.yld _ (Yld.move rfl) rfl rfl rfl ?_
          refine AO.yld _ (Yld.move rfl) rfl rfl rfl ?_
          refine AO.yld _ (Yld.move rfl) rfl rfl rfl ?_
          refine AO.yld _ (Yld.move rfl) rfl rfl rfl ?_
          refine AO.callW (wantedN rfl) [0] [] [0] rfl rfl Tryd.call110 rfl (impl_addVersion_c (by assumption) (by first | assumption | omega)) (.own rfl) rfl (fun _ => rfl) trivial rfl (fun _ => rfl) (fun _ => rfl) (fun _ _ => ?_)
          refine AO.yld _ (Yld.extract rfl rfl rfl) rfl rfl rfl ?_
          refine AO.yld _ (Yld.extract rfl rfl rfl) rfl rfl rfl ?_
          refine AO.yld _ (Yld.assign rfl) rfl rfl rfl ?_
          refine AO.yld _ (Yld.assign rfl) rfl rfl rfl ?_
          refine AO.nil ?_
          refine FnE.ret () [0] [0] Tryd.results63 (RVs.cons (RV.tmp rfl) (RVs.cons (RV.tmp rfl) RVs.nil)) rfl rfl rfl ?_ ?_ ⟨⟨_, rfl, ?_⟩, trivial⟩
          · -- holds
            trivial
          · -- value
            refine tupE ?_; (try simp only [hM] at *); unfold commitState; clear hg hsn; first | (simp_all [inVers]; done) | grind [inVers]
          · -- thing 0
            exact nestE (by (try simp only [hM] at *); unfold commitState; clear hg hsn; first | (simp_all [inVers]; done) | grind [inVers])

theorem laws_heldVersionS_c {k0 : Int} {ns : List Nat} (h0 : 0 ≤ k0) (h1 : k0 ≤ 100000000000) (hl : ns.length ≤ 1048576) (hn : ∀ n ∈ ns, n ≤ 1048576) :
    Pure Tryd.prog 46 [.sl 4 (mkV k0 ns), .v (.int .i64 k0)] (.v (.int .i64 (mkK k0 ns))) := by
  refine Pure.intro Tryd.func46 rfl Tryd.ntmps46 rfl rfl (fun w => ?_)
  refine AC.seq ?_
  refine AC.region ?_
  refine AO.yld _ (Yld.assign rfl) rfl rfl rfl ?_
  refine AO.nil ?_
  refine AC.seq ?_
  refine AC.seq ?_
  refine AC.region ?_
  refine AO.yld _ (Yld.assign rfl) rfl rfl rfl ?_
  refine AO.nil ?_
  refine AC.block ?_
  refine AC.loopC [(0, _)] [] (fun (k : Nat) => [(5, .p (.v (.int .i64 (k : Int)))), (1, .p (.v (.int .i64 (mkK k0 (ns.take k)))))]) (fun (k : Nat) => []) (fun (k : Nat) => k ≤ ns.length) (fun (k : Nat) => ns.length - k) 0 ⟨rfl, trivial⟩ trivial ⟨rfl, rfl, trivial⟩ trivial ?_ (fun k hJ => ?_)
  · exact Nat.zero_le _
  · -- round
    refine AC.seq ?_
    refine AC.seq ?_
    refine AC.region ?_
    refine AO.yld _ (Yld.move rfl) rfl rfl rfl ?_
    refine AO.yld _ (Yld.move rfl) rfl rfl rfl ?_
    refine AO.yld _ (Yld.len Tryd.underlying80 rfl rfl) rfl rfl rfl ?_
    refine AO.yld _ (Yld.int rfl rfl rfl) rfl rfl rfl ?_
    refine AO.nil ?_
    refine AC.cond _ rfl (fun c9 => ?_) (fun c9 => ?_)
    · -- c9 True
      have hk : k < ns.length := by have h := c9; rw [mkV_length] at h; simpa using h
      obtain ⟨n, hx⟩ := get_some hk
      have hnn := hn n (List.mem_of_getElem? hx)
      have hkb := mkK_bound (k0 := k0) hl hn k
      have e3 : (mkK k0 (ns.take k)) + 1 + 1 + 1 = (mkK k0 (ns.take k)) + 3 := by omega
      have e2 : (mkK k0 (ns.take k)) + 1 + 1 = (mkK k0 (ns.take k)) + 2 := by omega
      have hrow := mkV_get (k0 := k0) hx
      rw [← e2, ← e3] at hrow
      refine AC.skip ?_
      refine AC.seq ?_
      refine AC.block ?_
      refine AC.seq ?_
      refine AC.seq ?_
      refine AC.region ?_
      refine AO.yld _ (Yld.move rfl) rfl rfl rfl ?_
      refine AO.yld _ (Yld.move rfl) rfl rfl rfl ?_
      refine AO.yld _ (Yld.indexSl Tryd.underlying80 Tryd.sizeOf74 rfl rfl hrow rfl) rfl rfl rfl ?_
      refine AO.yld _ (Yld.fieldAddr Tryd.underlying74 rfl rfl Tryd.sizeOf2 rfl rfl rfl) rfl rfl rfl ?_
      refine AO.yld _ (Yld.load Tryd.isAgg2 rfl rfl) rfl rfl rfl ?_
      refine AO.yld _ (Yld.move rfl) rfl rfl rfl ?_
      refine AO.yld _ (Yld.int rfl rfl rfl) rfl rfl rfl ?_
      refine AO.nil ?_
      refine AC.cond _ rfl (fun c18 => ?_) (fun c18 => ?_)
      · -- c18 True
        exfalso; simp [← e2] at c18
      · -- c18 False
        refine AC.skip ?_
        refine AC.seq ?_
        refine AC.region ?_
        refine AO.yld _ (Yld.move rfl) rfl rfl rfl ?_
        refine AO.yld _ (Yld.add rfl rfl (by omega) (by omega)) rfl rfl rfl ?_
        refine AO.yld _ (Yld.assign rfl) rfl rfl rfl ?_
        refine AO.nil ?_
        refine AC.seq ?_
        refine AC.seq ?_
        refine AC.region ?_
        refine AO.yld _ (Yld.move rfl) rfl rfl rfl ?_
        refine AO.yld _ (Yld.move rfl) rfl rfl rfl ?_
        refine AO.yld _ (Yld.indexSl Tryd.underlying80 Tryd.sizeOf74 rfl rfl hrow rfl) rfl rfl rfl ?_
        refine AO.yld _ (Yld.fieldAddr Tryd.underlying74 rfl rfl Tryd.sizeOf2 rfl rfl rfl) rfl rfl rfl ?_
        refine AO.yld _ (Yld.load Tryd.isAgg2 rfl rfl) rfl rfl rfl ?_
        refine AO.yld _ (Yld.move rfl) rfl rfl rfl ?_
        refine AO.yld _ (Yld.int rfl rfl rfl) rfl rfl rfl ?_
        refine AO.nil ?_
        refine AC.cond _ rfl (fun c27 => ?_) (fun c27 => ?_)
        · -- c27 True
          exfalso; simp [← e2] at c27
        · -- c27 False
          refine AC.skip ?_
          refine AC.seq ?_
          refine AC.region ?_
          refine AO.yld _ (Yld.move rfl) rfl rfl rfl ?_
          refine AO.yld _ (Yld.add rfl rfl (by omega) (by omega)) rfl rfl rfl ?_
          refine AO.yld _ (Yld.assign rfl) rfl rfl rfl ?_
          refine AO.nil ?_
          refine AC.seq ?_
          refine AC.seq ?_
          refine AC.draw (by kernel_rfl) (by kernel_rfl) ?_
          refine AO.yld _ (Yld.move rfl) rfl rfl rfl ?_
          refine AO.yld _ (Yld.move rfl) rfl rfl rfl ?_
          refine AO.yld _ (Yld.indexSl Tryd.underlying80 Tryd.sizeOf74 rfl rfl hrow rfl) rfl rfl rfl ?_
          refine AO.yld _ (Yld.fieldAddr Tryd.underlying74 rfl rfl Tryd.sizeOf9 rfl rfl rfl) rfl rfl rfl ?_
          refine AO.yld _ (Yld.load Tryd.isAgg9 rfl rfl) rfl rfl rfl ?_
          refine AO.yld _ (Yld.move rfl) rfl rfl rfl ?_
          refine AO.yld _ (Yld.call rfl rfl Tryd.call112 rfl rfl rfl (laws_markText_c (by omega)) rfl) rfl rfl rfl ?_
          refine AO.yld _ (Yld.cmpStr rfl rfl rfl) rfl rfl rfl ?_
          refine AO.nil ?_
          refine AC.cond _ rfl (fun c37 => ?_) (fun c37 => ?_)
          · -- c37 True
            exfalso; simp [← e2] at c37
          · -- c37 False
            refine AC.skip ?_
            refine AC.seq ?_
            refine AC.region ?_
            refine AO.yld _ (Yld.move rfl) rfl rfl rfl ?_
            refine AO.yld _ (Yld.add rfl rfl (by omega) (by omega)) rfl rfl rfl ?_
            refine AO.yld _ (Yld.assign rfl) rfl rfl rfl ?_
            refine AO.nil ?_
            refine AC.seq ?_
            refine AC.region ?_
            refine AO.yld _ (Yld.move rfl) rfl rfl rfl ?_
            refine AO.yld _ (Yld.move rfl) rfl rfl rfl ?_
            refine AO.yld _ (Yld.indexSl Tryd.underlying80 Tryd.sizeOf74 rfl rfl hrow rfl) rfl rfl rfl ?_
            refine AO.yld _ (Yld.fieldAddr Tryd.underlying74 rfl rfl Tryd.sizeOf72 rfl rfl rfl) rfl rfl rfl ?_
            refine AO.yld _ (Yld.load Tryd.isAgg72 rfl rfl) rfl rfl rfl ?_
            refine AO.yld _ (Yld.move rfl) rfl rfl rfl ?_
            refine AO.yld _ (Yld.call rfl rfl Tryd.call114 rfl rfl rfl (laws_heldSettingS_c (k0 := (mkK k0 (ns.take k)) + 1 + 1 + 1) (n := n) (by omega) (by omega) (by omega)) rfl) rfl rfl rfl ?_
            refine AO.yld _ (Yld.assign rfl) rfl rfl rfl ?_
            refine AO.nil ?_
            refine AC.seq ?_
            refine AC.region ?_
            refine AO.yld _ (Yld.move rfl) rfl rfl rfl ?_
            refine AO.yld _ (Yld.int rfl rfl rfl) rfl rfl rfl ?_
            refine AO.nil ?_
            refine AC.cond _ rfl (fun c48 => ?_) (fun c48 => ?_)
            · -- c48 True
              exfalso; have h9 := c48; simp at h9; omega
            · -- c48 False
              refine AC.skip ?_
              refine AC.mark ?_
              refine AC.region ?_
              refine AO.yld _ (Yld.move rfl) rfl rfl rfl ?_
              refine AO.yld _ (Yld.add rfl rfl (by omega) (by omega)) rfl rfl rfl ?_
              refine AO.yld _ (Yld.assign rfl) rfl rfl rfl ?_
              refine AO.nil ?_
              refine AC.back ⟨k + 1, ?_, ?_, ⟨?_, ?_, trivial⟩, trivial, ⟨rfl, trivial⟩, trivial⟩
              · exact hk
              · omega
              · rfl
              · show some (AV.p (PV.v (Value.int IntKind.i64 _))) = _; rw [mkK_step hx, ← e3]; try rfl
    · -- c9 False
      obtain rfl : k = ns.length := by have h := c9; rw [mkV_length] at h; simp at h; omega
      refine AC.exit rfl ?_
      refine AC.seq ?_
      refine AC.region ?_
      refine AO.yld _ (Yld.move rfl) rfl rfl rfl ?_
      refine AO.yld _ (Yld.assign rfl) rfl rfl rfl ?_
      refine AO.nil ?_
      refine Pure.ret Tryd.results46 (RVs.cons (RV.tmp rfl) RVs.nil) rfl ?_
      first | rfl | (refine ci ?_; rw [List.take_length])

theorem impl_AncestorsOf_c {xs : List Ver} {n : Int} (hg : VersGood xs) :
    FnE (α := Unit) Tryd.prog 64 [.p (.sl 4 (xs.map encVer)), .p (.v (.int .i64 n))] [] [] (fun _ => True) (fun _ => .tup [.h 0, .p (.v (.int .i64 (ancOf xs n).2))]) (fun _ => [(0, .cust (tailC 2 (ancOf xs n).1 ((ancOf xs n).1.map encI) rfl))]) := by
  have hn := hg.1
  have hM : (xs.map encVer).length = xs.length := List.length_map ..
  refine FnE.intro Tryd.func64 rfl Tryd.ntmps64 rfl rfl (fun w0 F0 η φ w => ?_)
  refine AC.seq ?_
  refine AC.region ?_
  refine AO.yld _ (Yld.assign rfl) rfl rfl rfl ?_
  refine AO.yld _ (Yld.assign rfl) rfl rfl rfl ?_
  refine AO.nil ?_
  refine AC.seq ?_
  refine AC.seq ?_
  refine AC.region ?_
  refine AO.yld _ (Yld.move rfl) rfl rfl rfl ?_
  refine AO.yld _ (Yld.call rfl rfl Tryd.call109 rfl rfl rfl (impl_ValidHistory_c (by assumption)) rfl) rfl rfl rfl ?_
  refine AO.yld _ (Yld.not rfl) rfl rfl rfl ?_
  refine AO.nil ?_
  refine AC.cond _ rfl (fun c8 => ?_) (fun c8 => ?_)
  · -- c8 True
    have hnk : ¬ okVers xs = true := by simpa using c8
    refine AC.seq ?_
    refine AC.region ?_
    refine AO.yld _ (Yld.assign rfl) rfl rfl rfl ?_
    refine AO.yld _ (Yld.assign rfl) rfl rfl rfl ?_
    refine AO.nil ?_
    refine AC.nilVec 4 0 2 1 rfl rfl ?_
    refine AC.vecTail 0 rfl ?_
    refine FnE.ret () [0] [0] Tryd.results64 (RVs.cons (RV.tmp rfl) (RVs.cons (RV.tmp rfl) RVs.nil)) rfl rfl rfl ?_ ?_ ⟨⟨_, rfl, ?_⟩, trivial⟩
    · -- holds
      trivial
    · -- value
      refine tupE ?_; unfold ancOf; first | rw [if_pos hok, if_pos hin] | rw [if_pos hok, if_neg hno] | rw [if_neg hnk]
    · -- thing 0
      exact tailE (by unfold ancOf; first | rw [if_pos hok, if_pos hin] | rw [if_pos hok, if_neg hno] | rw [if_neg hnk])
  · -- c8 False
    have hok : okVers xs = true := by simpa using c8
    refine AC.skip ?_
    refine AC.seq ?_
    refine AC.seq ?_
    refine AC.region ?_
    refine AO.yld _ (Yld.move rfl) rfl rfl rfl ?_
    refine AO.yld _ (Yld.move rfl) rfl rfl rfl ?_
    refine AO.yld _ (Yld.len Tryd.underlying80 rfl rfl) rfl rfl rfl ?_
    refine AO.yld _ (Yld.call rfl rfl Tryd.call80 rfl rfl rfl (impl_within_c) rfl) rfl rfl rfl ?_
    refine AO.yld _ (Yld.not rfl) rfl rfl rfl ?_
    refine AO.nil ?_
    refine AC.cond _ rfl (fun c13 => ?_) (fun c13 => ?_)
    · -- c13 True
      have hno : ¬ inVers xs n = true := by (try simp only [hM] at *); first | (simpa using c13) | (have h9 := c13; simp [inVers] at h9 ⊢; omega)
      refine AC.seq ?_
      refine AC.region ?_
      refine AO.yld _ (Yld.assign rfl) rfl rfl rfl ?_
      refine AO.yld _ (Yld.assign rfl) rfl rfl rfl ?_
      refine AO.nil ?_
      refine AC.nilVec 4 0 2 1 rfl rfl ?_
      refine AC.vecTail 0 rfl ?_
      refine FnE.ret () [0] [0] Tryd.results64 (RVs.cons (RV.tmp rfl) (RVs.cons (RV.tmp rfl) RVs.nil)) rfl rfl rfl ?_ ?_ ⟨⟨_, rfl, ?_⟩, trivial⟩
      · -- holds
        trivial
      · -- value
        refine tupE ?_; unfold ancOf; first | rw [if_pos hok, if_pos hin] | rw [if_pos hok, if_neg hno] | rw [if_neg hnk]
      · -- thing 0
        exact tailE (by unfold ancOf; first | rw [if_pos hok, if_pos hin] | rw [if_pos hok, if_neg hno] | rw [if_neg hnk])
    · -- c13 False
      have hin : inVers xs n = true := by (try simp only [hM] at *); first | (simpa using c13) | (have h9 := c13; simp [inVers] at h9 ⊢; exact h9)
      have hlim : 1 ≤ n ∧ n ≤ xs.length := by simpa [inVers] using hin
      refine AC.skip ?_
      refine AC.seq ?_
      refine AC.region ?_
      refine AO.yld _ (Yld.move rfl) rfl rfl rfl ?_
      refine AO.yld _ (Yld.move rfl) rfl rfl rfl ?_
      refine AO.callW (wantedN rfl) [0] [] [0] rfl rfl Tryd.call137 rfl (impl_lineOf_c (by assumption) (by assumption) (by omega) (by omega)) (.flat (.view rfl rfl (.view rfl rfl .nil)) (fun _ => by simp [AV.Flat, AV.FlatL, PV.Flat, PV.FlatL]) (fun _ => ⟨flat_map flatI _, trivial⟩)) rfl (fun _ => rfl) trivial rfl (fun _ => rfl) (fun _ => rfl) (fun _ _ => ?_)
      refine AO.tail 0 (n0 := n) (xs := (line xs n).tail) rfl Tryd.underlying28 Tryd.sizeOf2 rfl rfl (by rw [line_pos hok (n := n) (by omega)]; rfl) (.some rfl rfl) rfl ?_
      refine AO.yld _ (Yld.assign rfl) rfl rfl rfl ?_
      refine AO.yld _ (Yld.assign rfl) rfl rfl rfl ?_
      refine AO.nil ?_
      refine FnE.ret () [0] [0] Tryd.results64 (RVs.cons (RV.tmp rfl) (RVs.cons (RV.tmp rfl) RVs.nil)) rfl rfl rfl ?_ ?_ ⟨⟨_, rfl, ?_⟩, trivial⟩
      · -- holds
        trivial
      · -- value
        refine tupE ?_; unfold ancOf; first | rw [if_pos hok, if_pos hin] | rw [if_pos hok, if_neg hno] | rw [if_neg hnk]
      · -- thing 0
        exact tailE (by unfold ancOf; first | rw [if_pos hok, if_pos hin] | rw [if_pos hok, if_neg hno] | rw [if_neg hnk])

end Go.Proofs.YtdgjlkdcklfieaaDoor
