/- Contracts of functions of the program, each by a walk of its text in the calculus V. -/
import Derived.Test.YtghcdgjbgljipaaDoorR15
import Derived.Test.YtghcdgjbgljipaaDoorD52
import Derived.Test.YtghcdgjbgljipaaDoorV22
import Derived.Test.YtghcdgjbgljipaaDoorV33
set_option linter.all false
set_option linter.unusedSimpArgs false
set_option linter.unnecessarySimpa false
set_option linter.unusedVariables false
namespace Go.Proofs.YtghcdgjbgljipaaDoor
open Go Go.V

theorem impl_FalseClocks_c {xs : List Mach} (hn : xs.length ≤ 1048576) (hs : ∀ x ∈ xs, x.name.length ≤ 1048576) :
    FnE (α := Unit) Tryd.prog 24 [.p (.sl 3 (xs.map encMach))] [] [] (fun _ => True) (fun _ => .tup [.h 0, .p (.v (.int .i64 (falseClocks xs).2))]) (fun _ => [(0, .vec 2 1 ((falseClocks xs).1.map Go.V.encI))]) := by
  refine FnE.intro Tryd.func24 rfl Tryd.ntmps24 rfl rfl (fun w0 F0 η φ w => ?_)
  refine AC.seq ?_
  refine AC.region ?_
  refine AO.yld _ (Yld.assign rfl) rfl rfl rfl ?_
  refine AO.yld _ (Yld.assign rfl) rfl rfl rfl ?_
  refine AO.nil ?_
  refine AC.seq ?_
  refine AC.seq ?_
  refine AC.region ?_
  refine AO.yld _ (Yld.move rfl) rfl rfl rfl ?_
  refine AO.yld _ (Yld.call rfl rfl Tryd.call61 rfl rfl rfl (impl_checkMachines_c (by first | assumption | omega) (by assumption)) rfl) rfl rfl rfl ?_
  refine AO.yld _ (Yld.assign rfl) rfl rfl rfl ?_
  refine AO.nil ?_
  refine AC.seq ?_
  refine AC.region ?_
  refine AO.yld _ (Yld.move rfl) rfl rfl rfl ?_
  refine AO.yld _ (Yld.int rfl rfl rfl) rfl rfl rfl ?_
  refine AO.nil ?_
  refine AC.cond _ rfl (fun c13 => ?_) (fun c13 => ?_)
  · -- c13 True
    refine AC.seq ?_
    refine AC.region ?_
    refine AO.yld _ (Yld.move rfl) rfl rfl rfl ?_
    refine AO.yld _ (Yld.assign rfl) rfl rfl rfl ?_
    refine AO.yld _ (Yld.assign rfl) rfl rfl rfl ?_
    refine AO.nil ?_
    refine AC.nilVec 2 0 2 1 rfl rfl ?_
    refine FnE.ret () [0] [0] Tryd.results24 (RVs.cons (RV.tmp rfl) (RVs.cons (RV.tmp rfl) RVs.nil)) rfl rfl rfl ?_ ?_ ⟨⟨_, rfl, ?_⟩, trivial⟩
    · -- holds
      trivial
    · -- value
      refine tupE ?_; first | (simp_all [falseClocks]; done) | grind [falseClocks]
    · -- thing 0
      refine vecE ?_; first | (simp_all [falseClocks, idxOn]; done) | grind [falseClocks, idxOn]
  · -- c13 False
    have hk0 : askMachines xs = 0 := by first | (simpa using c13) | (exact absurd c13 (by decide))
    have hok := (ask_ok hk0).1
    refine AC.skip ?_
    refine AC.seq ?_
    refine AC.region ?_
    refine AO.yld _ (Yld.move rfl) rfl rfl rfl ?_
    refine AO.yld _ (Yld.call rfl rfl Tryd.call62 rfl rfl rfl (impl_agreedOffset_c (by first | assumption | omega) (by assumption)) rfl) rfl rfl rfl ?_
    refine AO.yld _ (Yld.move rfl) rfl rfl rfl ?_
    refine AO.yld _ (Yld.extract rfl rfl rfl) rfl rfl rfl ?_
    refine AO.yld _ (Yld.extract rfl rfl rfl) rfl rfl rfl ?_
    refine AO.yld _ (Yld.assign rfl) rfl rfl rfl ?_
    refine AO.yld _ (Yld.assign rfl) rfl rfl rfl ?_
    refine AO.nil ?_
    refine AC.seq ?_
    refine AC.region ?_
    refine AO.yld _ (Yld.assign rfl) rfl rfl rfl ?_
    refine AO.nil ?_
    refine AC.seq ?_
    refine AC.seq ?_
    refine AC.region ?_
    refine AO.yld _ (Yld.move rfl) rfl rfl rfl ?_
    refine AO.yld _ (Yld.len Tryd.underlying51 rfl rfl) rfl rfl rfl ?_
    refine AO.yld _ (Yld.move rfl) rfl rfl rfl ?_
    refine AO.nil ?_
    refine AC.block ?_
    refine AC.nilVec 7 0 2 1 rfl rfl ?_
    refine AC.loopC [(2, _), (3, _), (5, _), (20, _), (21, _)] [(900, _)] (fun (k : Nat) => [(22, .p (.v (.int .i64 (k : Int)))), (7, .h 0)]) (fun (k : Nat) => [(0, .vec 2 1 ((idxTo (falseB (bestB xs xs.length).1) xs k).map Go.V.encI))]) (fun (k : Nat) => k ≤ xs.length) (fun (k : Nat) => xs.length - k) 0 ⟨rfl, rfl, rfl, rfl, rfl, trivial⟩ ⟨rfl, trivial⟩ ⟨rfl, rfl, trivial⟩ ⟨rfl, trivial⟩ ?_ (fun k hJ => ?_)
    · exact Nat.zero_le _
    · -- round
      refine AC.seq ?_
      refine AC.region ?_
      refine AO.yld _ (Yld.int rfl rfl rfl) rfl rfl rfl ?_
      refine AO.nil ?_
      refine AC.seq ?_
      refine AC.cond _ rfl (fun c23 => ?_) (fun c23 => ?_)
      · -- c23 True
        have hk := lt_of_decM c23
        obtain ⟨x, hx⟩ := get_some hk
        have hrow := map_row (enc := encMach) hx
        have hox := machines_at hok hx
        have hlx := mach_lim hox
        have hil := idxTo_len (p := (falseB (bestB xs xs.length).1)) (xs := xs) k
        refine AC.skip ?_
        refine AC.seq ?_
        refine AC.block ?_
        refine AC.seq ?_
        refine AC.region ?_
        refine AO.yld _ (Yld.move rfl) rfl rfl rfl ?_
        refine AO.yld _ (Yld.indexSl Tryd.underlying51 Tryd.sizeOf58 rfl rfl hrow rfl) rfl rfl rfl ?_
        refine AO.yld _ (Yld.loadAgg Tryd.isAgg58 Tryd.sizeOf58 rfl rfl rfl rfl) rfl rfl rfl ?_
        refine AO.alloc 1 Tryd.zeroValue58 rfl rfl rfl ?_
        refine AO.yld _ (Yld.assign rfl) rfl rfl rfl ?_
        refine AO.store Tryd.sizeOf58 rfl rfl rfl rfl rfl rfl ?_
        refine AO.nil ?_
        refine AC.seq ?_
        refine AC.region ?_
        refine AO.yld _ (Yld.loadAgg Tryd.isAgg58 Tryd.sizeOf58 rfl rfl rfl rfl) rfl rfl rfl ?_
        refine AO.yld _ (Yld.move rfl) rfl rfl rfl ?_
        refine AO.yld _ (Yld.call rfl rfl Tryd.call63 rfl rfl rfl (impl_liesIn_c (by assumption)) rfl) rfl rfl rfl ?_
        refine AO.yld _ (Yld.not rfl) rfl rfl rfl ?_
        refine AO.nil ?_
        refine AC.cond _ rfl (fun c30 => ?_) (fun c30 => ?_)
        · -- c30 True
          refine AC.region ?_
          refine AO.yld _ (Yld.move rfl) rfl rfl rfl ?_
          refine AO.yld _ (Yld.move rfl) rfl rfl rfl ?_
          refine AO.buildSlice (rows := [[_]]) 2 Tryd.underlying39 ty2 rfl rfl rfl rfl rfl rfl rfl rfl rfl ?_
          refine AO.append 0 Tryd.underlying39 ty2 rfl rfl rfl rfl rfl rfl rfl (by simp [pvOne]) (by simp only [List.length_map, List.length_cons, List.length_nil]; omega) (by simp only [List.length_map, List.length_cons, List.length_nil]; omega) rfl ?_
          refine AO.yld _ (Yld.assign rfl) rfl rfl rfl ?_
          refine AO.nil ?_
          refine AC.mark ?_
          refine AC.region ?_
          refine AO.yld _ (Yld.add rfl rfl (by omega) (by omega)) rfl rfl rfl ?_
          refine AO.yld _ (Yld.move rfl) rfl rfl rfl ?_
          refine AO.nil ?_
          refine AC.back ⟨k + 1, ?_, ?_, ⟨?_, ?_, trivial⟩, ⟨?_, trivial⟩, ⟨rfl, rfl, rfl, rfl, rfl, trivial⟩, ⟨rfl, trivial⟩⟩
          · exact hk
          · omega
          · rfl
          · rfl
          · first | (rw [idxTo_T hx (c30)]; rw [map_snoc]; rfl) | (rw [idxTo_F hx (c30)]; rfl)
        · -- c30 False
          refine AC.skip ?_
          refine AC.mark ?_
          refine AC.region ?_
          refine AO.yld _ (Yld.add rfl rfl (by omega) (by omega)) rfl rfl rfl ?_
          refine AO.yld _ (Yld.move rfl) rfl rfl rfl ?_
          refine AO.nil ?_
          refine AC.back ⟨k + 1, ?_, ?_, ⟨?_, ?_, trivial⟩, ⟨?_, trivial⟩, ⟨rfl, rfl, rfl, rfl, rfl, trivial⟩, ⟨rfl, trivial⟩⟩
          · exact hk
          · omega
          · rfl
          · rfl
          · first | (rw [idxTo_T hx (c30)]; rw [map_snoc]; rfl) | (rw [idxTo_F hx (c30)]; rfl)
      · -- c23 False
        obtain rfl : k = xs.length := by have := ge_of_decM c23; omega
        refine AC.exit rfl ?_
        refine AC.seq ?_
        refine AC.region ?_
        refine AO.yld _ (Yld.move rfl) rfl rfl rfl ?_
        refine AO.yld _ (Yld.assign rfl) rfl rfl rfl ?_
        refine AO.yld _ (Yld.assign rfl) rfl rfl rfl ?_
        refine AO.nil ?_
        refine FnE.ret () [0] [0] Tryd.results24 (RVs.cons (RV.tmp rfl) (RVs.cons (RV.tmp rfl) RVs.nil)) rfl rfl rfl ?_ ?_ ⟨⟨_, rfl, ?_⟩, trivial⟩
        · -- holds
          trivial
        · -- value
          refine tupE ?_; first | (simp_all [falseClocks]; done) | grind [falseClocks]
        · -- thing 0
          refine vecE ?_; first | (simp_all [falseClocks, idxOn]; done) | grind [falseClocks, idxOn]

theorem eqsMachine {x y : Mach} {X Y : Operand} (w : World) : (do eqGuard .eql 58 X Y (.agg [str x.name, .int .i64 x.offset, .int .i64 x.delay].toArray) (.agg [str y.name, .int .i64 y.offset, .int .i64 y.delay].toArray); binOp .eql 58 (.agg [str x.name, .int .i64 x.offset, .int .i64 x.delay].toArray) (.agg [str y.name, .int .i64 y.offset, .int .i64 y.delay].toArray) : Sem Value).run Tryd.prog w = .ok (.bool (decide (x = y))) w := by
  have g1 : Tryd.prog.eqGuardType Tryd.prog.depth 58 = false := by kernel_rfl
  have g2 : Tryd.prog.stoodInHeld 58 = false := by kernel_rfl
  have g3 : Tryd.prog.underlying 58 = some (.struct (Tryd.prog.fieldsOf 58)) := by kernel_rfl
  have g4 : (Tryd.prog.fieldsOf 58).toList = [⟨ "Name", 9, 0, false, "", "", 0⟩, ⟨ "Offset", 2, 1, false, "", "", 16⟩, ⟨ "Delay", 2, 2, false, "", "", 24⟩] := by kernel_rfl
  rw [Sem.run_bind, run_eqGuard_agg _ _ _ _ _ _ _ g1, Result.andThen_ok, run_eql_struct, run_equalIn_struct _ _ _ _ _ g3 g2, g4]
  have e : decide (x = y) = (decide (x.name = y.name) && decide (x.offset = y.offset) && decide (x.delay = y.delay)) := by cases x; cases y; simp [Bool.and_assoc]
  rw [e]
  clear g1 g2 g3 g4 e
  simp [Op.eqFields, go_sem, part, str, Tryd.sizeOf2, Tryd.isAgg2, Tryd.sizeOf9, Tryd.isAgg9, run_equalIn_int (h := Tryd.underlying2), run_equalIn_string (h := Tryd.underlying9)]
  by_cases h0 : x.name = y.name <;> by_cases h1 : x.offset = y.offset <;> by_cases h2 : x.delay = y.delay <;> simp_all

theorem laws_b10Rises_c {xs : List Int} {n : Int} (hn : xs.length ≤ 1048576) (hr : risesB xs n) :
    Pure Tryd.prog 25 [.sl 1 (xs.map Go.V.encI), .v (.int .i64 n)] (.v (.bool true)) := by
  have hM : (xs.map Go.V.encI).length = xs.length := List.length_map ..
  refine Pure.intro Tryd.func25 rfl Tryd.ntmps25 rfl rfl (fun w => ?_)
  refine AC.seq ?_
  refine AC.region ?_
  refine AO.yld _ (Yld.assign rfl) rfl rfl rfl ?_
  refine AO.nil ?_
  refine AC.seq ?_
  refine AC.seq ?_
  refine AC.region ?_
  refine AO.yld _ (Yld.assign rfl) rfl rfl rfl ?_
  refine AO.nil ?_
  refine AC.block ?_
  refine AC.loopC [(0, _), (1, _)] [] (fun (k : Nat) => [(5, .p (.v (.int .i64 (k : Int))))]) (fun (k : Nat) => []) (fun (k : Nat) => k ≤ xs.length) (fun (k : Nat) => xs.length - k) 0 ⟨rfl, rfl, trivial⟩ trivial ⟨rfl, trivial⟩ trivial ?_ (fun k hJ => ?_)
  · exact Nat.zero_le _
  · -- round
    refine AC.seq ?_
    refine AC.seq ?_
    refine AC.region ?_
    refine AO.yld _ (Yld.move rfl) rfl rfl rfl ?_
    refine AO.yld _ (Yld.move rfl) rfl rfl rfl ?_
    refine AO.yld _ (Yld.len Tryd.underlying39 rfl rfl) rfl rfl rfl ?_
    refine AO.yld _ (Yld.int rfl rfl rfl) rfl rfl rfl ?_
    refine AO.nil ?_
    refine AC.cond _ rfl (fun c9 => ?_) (fun c9 => ?_)
    · -- c9 True
      have hk : k < xs.length := by have h := c9; rw [hM] at h; simpa using h
      obtain ⟨x, hx⟩ := get_some hk
      have hrow := map_row (enc := Go.V.encI) hx
      obtain ⟨r1, r2, r3⟩ := hr k x hx
      refine AC.skip ?_
      refine AC.seq ?_
      refine AC.block ?_
      refine AC.seq ?_
      refine AC.draw (by kernel_rfl) (by kernel_rfl) ?_
      refine AO.yld _ (Yld.move rfl) rfl rfl rfl ?_
      refine AO.yld _ (Yld.move rfl) rfl rfl rfl ?_
      refine AO.yld _ (Yld.indexSl Tryd.underlying39 Tryd.sizeOf2 rfl rfl hrow rfl) rfl rfl rfl ?_
      refine AO.yld _ (Yld.load Tryd.isAgg2 rfl rfl) rfl rfl rfl ?_
      refine AO.yld _ (Yld.int rfl rfl rfl) rfl rfl rfl ?_
      refine AO.yld _ (Yld.move rfl) rfl rfl rfl ?_
      refine AO.splitAt 17 _ rfl (fun s17 => ?_) (fun s17 => ?_)
      · -- s17 True
        exfalso; have h9 := s17; simp only [decide_eq_true_eq] at h9; omega
      · -- s17 False
        refine AO.yldG _ (Yld.move rfl) rfl rfl rfl rfl rfl ?_
        refine AO.yldG _ (Yld.move rfl) rfl rfl rfl rfl rfl ?_
        refine AO.yldG _ (Yld.indexSl Tryd.underlying39 Tryd.sizeOf2 rfl rfl hrow rfl) rfl rfl rfl rfl rfl ?_
        refine AO.yldG _ (Yld.load Tryd.isAgg2 rfl rfl) rfl rfl rfl rfl rfl ?_
        refine AO.yldG _ (Yld.move rfl) rfl rfl rfl rfl rfl ?_
        refine AO.yldG _ (Yld.int rfl rfl rfl) rfl rfl rfl rfl rfl ?_
        refine AO.yld _ (Yld.pickF rfl rfl) rfl rfl rfl ?_
        refine AO.yld _ (Yld.move rfl) rfl rfl rfl ?_
        refine AO.splitAt 25 _ rfl (fun s25 => ?_) (fun s25 => ?_)
        · -- s25 True
          exfalso; have h9 := s25; simp only [decide_eq_true_eq] at h9; omega
        · -- s25 False
          refine AO.yldG _ (Yld.move rfl) rfl rfl rfl rfl rfl ?_
          refine AO.yldG _ (Yld.int rfl rfl rfl) rfl rfl rfl rfl rfl ?_
          refine AO.yldG _ (Yld.move rfl) rfl rfl rfl rfl rfl ?_
          refine AO.splitAt 28 _ rfl (fun s28 => ?_) (fun s28 => ?_)
          · -- s28 True
            have hk0 : 0 < k := by have h := s28; simp at h; omega
            obtain ⟨y, hy⟩ := get_some (xs := xs) (k := k - 1) (by omega)
            have hrowP := map_row (enc := Go.V.encI) hy
            have r4 := r3 (k - 1) y (by omega) hy
            refine AO.yldG _ (Yld.move rfl) rfl rfl rfl rfl rfl ?_
            refine AO.yldG _ (Yld.move rfl) rfl rfl rfl rfl rfl ?_
            refine AO.yldG _ (Yld.sub rfl rfl (by omega) (by omega)) rfl rfl rfl rfl rfl ?_
            refine AO.yldG _ (Yld.indexSl Tryd.underlying39 Tryd.sizeOf2 rfl rfl hrowP (by omega)) rfl rfl rfl rfl rfl ?_
            refine AO.yldG _ (Yld.load Tryd.isAgg2 rfl rfl) rfl rfl rfl rfl rfl ?_
            refine AO.yldG _ (Yld.move rfl) rfl rfl rfl rfl rfl ?_
            refine AO.yldG _ (Yld.move rfl) rfl rfl rfl rfl rfl ?_
            refine AO.yldG _ (Yld.indexSl Tryd.underlying39 Tryd.sizeOf2 rfl rfl hrow rfl) rfl rfl rfl rfl rfl ?_
            refine AO.yldG _ (Yld.load Tryd.isAgg2 rfl rfl) rfl rfl rfl rfl rfl ?_
            refine AO.yldG _ (Yld.int rfl rfl rfl) rfl rfl rfl rfl rfl ?_
            refine AO.yldG _ (Yld.pickT rfl rfl) rfl rfl rfl rfl rfl ?_
            refine AO.yld _ (Yld.pickF rfl rfl) rfl rfl rfl ?_
            refine AO.nil ?_
            refine AC.cond _ rfl (fun c40 => ?_) (fun c40 => ?_)
            · -- c40 True
              exfalso; have h9 := c40; simp only [decide_eq_true_eq] at h9; omega
            · -- c40 False
              refine AC.skip ?_
              refine AC.mark ?_
              refine AC.region ?_
              refine AO.yld _ (Yld.move rfl) rfl rfl rfl ?_
              refine AO.yld _ (Yld.add rfl rfl (by omega) (by omega)) rfl rfl rfl ?_
              refine AO.yld _ (Yld.assign rfl) rfl rfl rfl ?_
              refine AO.nil ?_
              refine AC.back ⟨k + 1, ?_, ?_, ⟨?_, trivial⟩, trivial, ⟨rfl, rfl, trivial⟩, trivial⟩
              · exact hk
              · omega
              · rfl
          · -- s28 False
            refine AO.skipT rfl rfl rfl rfl rfl ?_
            refine AO.skipT rfl rfl rfl rfl rfl ?_
            refine AO.skipT rfl rfl rfl rfl rfl ?_
            refine AO.skipT rfl rfl rfl rfl rfl ?_
            refine AO.skipT rfl rfl rfl rfl rfl ?_
            refine AO.skipT rfl rfl rfl rfl rfl ?_
            refine AO.skipT rfl rfl rfl rfl rfl ?_
            refine AO.skipT rfl rfl rfl rfl rfl ?_
            refine AO.skipT rfl rfl rfl rfl rfl ?_
            refine AO.skipT rfl rfl rfl rfl rfl ?_
            refine AO.yldG _ (Yld.pickF rfl rfl) rfl rfl rfl rfl rfl ?_
            refine AO.yld _ (Yld.pickF rfl rfl) rfl rfl rfl ?_
            refine AO.nil ?_
            refine AC.condF rfl ?_
            refine AC.skip ?_
            refine AC.mark ?_
            refine AC.region ?_
            refine AO.yld _ (Yld.move rfl) rfl rfl rfl ?_
            refine AO.yld _ (Yld.add rfl rfl (by omega) (by omega)) rfl rfl rfl ?_
            refine AO.yld _ (Yld.assign rfl) rfl rfl rfl ?_
            refine AO.nil ?_
            refine AC.back ⟨k + 1, ?_, ?_, ⟨?_, trivial⟩, trivial, ⟨rfl, rfl, trivial⟩, trivial⟩
            · exact hk
            · omega
            · rfl
    · -- c9 False
      refine AC.exit rfl ?_
      refine AC.seq ?_
      refine AC.region ?_
      refine AO.yld _ (Yld.assign rfl) rfl rfl rfl ?_
      refine AO.nil ?_
      refine Pure.ret Tryd.results25 (RVs.cons (RV.tmp rfl) RVs.nil) rfl ?_
      rfl

set_option maxHeartbeats 8000000 in
theorem laws_FnClocks_c {code more : List UInt8} :
    FnE (α := Unit) Tryd.prog 4 [.p (.sl 1 (code.map encB)), .p (.sl 1 (more.map encB))] [(0, powRE Tryd.prog)] [0] (fun _ => True) (fun _ => .p (.v (.bool true))) (fun _ => [(0, powRE Tryd.prog)]) := by
  refine FnE.intro Tryd.func4 rfl Tryd.ntmps4 rfl rfl (fun w0 F0 η φ w => ?_)
  refine AC.seq ?_
  refine AC.region ?_
  refine AO.yld _ (Yld.assign rfl) rfl rfl rfl ?_
  refine AO.nil ?_
  refine AC.seq ?_
  refine AC.seq ?_
  refine AC.region ?_
  refine AO.yld _ (Yld.move rfl) rfl rfl rfl ?_
  refine AO.yld _ (Yld.call rfl rfl Tryd.call21 rfl rfl rfl (laws_b10Long_c) rfl) rfl rfl rfl ?_
  refine AO.yld _ (Yld.move rfl) rfl rfl rfl ?_
  refine AO.splitAt 29 _ rfl (fun s29 => ?_) (fun s29 => ?_)
  · -- s29 True
    refine AO.skipF rfl rfl rfl rfl rfl ?_
    refine AO.skipF rfl rfl rfl rfl rfl ?_
    refine AO.yld _ (Yld.pickT rfl rfl) rfl rfl rfl ?_
    refine AO.nil ?_
    refine AC.condT rfl ?_
    refine AC.seq ?_
    refine AC.region ?_
    refine AO.yld _ (Yld.assign rfl) rfl rfl rfl ?_
    refine AO.nil ?_
    refine FnE.ret () [0] [0] Tryd.results4 (RVs.cons (RV.tmp rfl) RVs.nil) rfl rfl rfl ?_ ?_ ⟨⟨_, rfl, ?_⟩, trivial⟩
    · -- holds
      trivial
    · -- value
      first | rfl | (rw [b2]; rfl) | (rw [hmb]; rfl) | (rw [hrb]; simp; done) | (rw [hrb]; simp; rfl) | skip
    · -- thing 0
      first | rfl | exact vecE (by first | rfl | (simp_all; done) | grind) | (simp_all; done)
  · -- s29 False
    refine AO.yldG _ (Yld.move rfl) rfl rfl rfl rfl rfl ?_
    refine AO.yldG _ (Yld.call rfl rfl Tryd.call21 rfl rfl rfl (laws_b10Long_c) rfl) rfl rfl rfl rfl rfl ?_
    refine AO.yld _ (Yld.pickF rfl rfl) rfl rfl rfl ?_
    refine AO.nil ?_
    refine AC.cond _ rfl (fun c32 => ?_) (fun c32 => ?_)
    · -- c32 True
      refine AC.seq ?_
      refine AC.region ?_
      refine AO.yld _ (Yld.assign rfl) rfl rfl rfl ?_
      refine AO.nil ?_
      refine FnE.ret () [0] [0] Tryd.results4 (RVs.cons (RV.tmp rfl) RVs.nil) rfl rfl rfl ?_ ?_ ⟨⟨_, rfl, ?_⟩, trivial⟩
      · -- holds
        trivial
      · -- value
        first | rfl | (rw [b2]; rfl) | (rw [hmb]; rfl) | (rw [hrb]; simp; done) | (rw [hrb]; simp; rfl) | skip
      · -- thing 0
        first | rfl | exact vecE (by first | rfl | (simp_all; done) | grind) | (simp_all; done)
    · -- c32 False
      refine AC.skip ?_
      refine AC.seq ?_
      refine AC.region ?_
      refine AO.yld _ (Yld.move rfl) rfl rfl rfl ?_
      refine AO.callW (wantedN rfl) [1] [] [0] rfl rfl Tryd.call22 rfl (spec_DrawAgreedOffset_c) (.own rfl) rfl (fun _ => rfl) trivial rfl (fun _ => rfl) (fun _ => rfl) (fun ms34 hms34 => ?_)
      have hml := hms34.1
      have hnm := hms34.names
      have hM : (ms34.map encMach).length = ms34.length := List.length_map ..
      refine AO.yld _ (Yld.assign rfl) rfl rfl rfl ?_
      refine AO.nil ?_
      refine AC.seq ?_
      refine AC.region ?_
      refine AO.yld _ (Yld.move rfl) rfl rfl rfl ?_
      refine AO.yld _ (Yld.call rfl rfl Tryd.call23 rfl rfl rfl (impl_AgreedOffset_c (by omega) hnm) rfl) rfl rfl rfl ?_
      refine AO.yld _ (Yld.move rfl) rfl rfl rfl ?_
      refine AO.yld _ (Yld.extract rfl rfl rfl) rfl rfl rfl ?_
      refine AO.yld _ (Yld.extract rfl rfl rfl) rfl rfl rfl ?_
      refine AO.yld _ (Yld.extract rfl rfl rfl) rfl rfl rfl ?_
      refine AO.yld _ (Yld.extract rfl rfl rfl) rfl rfl rfl ?_
      refine AO.yld _ (Yld.assign rfl) rfl rfl rfl ?_
      refine AO.yld _ (Yld.assign rfl) rfl rfl rfl ?_
      refine AO.yld _ (Yld.assign rfl) rfl rfl rfl ?_
      refine AO.yld _ (Yld.assign rfl) rfl rfl rfl ?_
      refine AO.nil ?_
      refine AC.seq ?_
      refine AC.region ?_
      refine AO.yld _ (Yld.move rfl) rfl rfl rfl ?_
      refine AO.callW (wantedN rfl) [2] [] [0] rfl rfl Tryd.call24 rfl (impl_FalseClocks_c (by first | assumption | omega) (by assumption)) (.flat (.view rfl rfl .nil) (fun _ => by simp [AV.Flat, AV.FlatL, PV.Flat, PV.FlatL]) (fun _ => ⟨flat_map flatI _, trivial⟩)) rfl (fun _ => rfl) trivial rfl (fun _ => rfl) (fun _ => rfl) (fun _ _ => ?_)
      refine AO.yld _ (Yld.move rfl) rfl rfl rfl ?_
      refine AO.yld _ (Yld.extract rfl rfl rfl) rfl rfl rfl ?_
      refine AO.yld _ (Yld.extract rfl rfl rfl) rfl rfl rfl ?_
      refine AO.yld _ (Yld.assign rfl) rfl rfl rfl ?_
      refine AO.yld _ (Yld.assign rfl) rfl rfl rfl ?_
      refine AO.nil ?_
      refine AC.seq ?_
      refine AC.seq ?_
      refine AC.region ?_
      refine AO.yld _ (Yld.move rfl) rfl rfl rfl ?_
      refine AO.yld _ (Yld.int rfl rfl rfl) rfl rfl rfl ?_
      refine AO.nil ?_
      refine AC.cond _ rfl (fun c48 => ?_) (fun c48 => ?_)
      · -- c48 True
        have h0 : ¬ (agreedOffset ms34).2.2.2 = 0 := by simpa using c48
        obtain ⟨b1, b2⟩ := agreed_code h0
        refine AC.seq ?_
        refine AC.region ?_
        refine AO.yld _ (Yld.move rfl) rfl rfl rfl ?_
        refine AO.yld _ (Yld.move rfl) rfl rfl rfl ?_
        refine AO.yld _ (Yld.int rfl rfl rfl) rfl rfl rfl ?_
        refine AO.yld _ (Yld.move rfl) rfl rfl rfl ?_
        refine AO.splitAt 52 _ rfl (fun s52 => ?_) (fun s52 => ?_)
        · -- s52 True
          refine AO.yldG _ (Yld.move rfl) rfl rfl rfl rfl rfl ?_
          refine AO.yldG _ (Yld.int rfl rfl rfl) rfl rfl rfl rfl rfl ?_
          refine AO.yld _ (Yld.pickT rfl rfl) rfl rfl rfl ?_
          refine AO.yld _ (Yld.assign rfl) rfl rfl rfl ?_
          refine AO.nil ?_
          refine FnE.ret () [0] [0] Tryd.results4 (RVs.cons (RV.tmp rfl) RVs.nil) rfl rfl rfl ?_ ?_ ⟨⟨_, rfl, ?_⟩, trivial⟩
          · -- holds
            trivial
          · -- value
            first | rfl | (rw [b2]; rfl) | (rw [hmb]; rfl) | (rw [hrb]; simp; done) | (rw [hrb]; simp; rfl) | skip
          · -- thing 0
            first | rfl | exact vecE (by first | rfl | (simp_all; done) | grind) | (simp_all; done)
        · -- s52 False
          exfalso; rw [b1] at s52; simp at s52
      · -- c48 False
        have h0 : (agreedOffset ms34).2.2.2 = 0 := by simpa using c48
        obtain ⟨hok, f2, f3, f4, f5, f6, f7⟩ := agreed_facts h0
        have hfl := false_len ms34
        have hM3 : ((falseClocks ms34).1.map Go.V.encI).length = (falseClocks ms34).1.length := List.length_map ..
        have f9 : risesB (falseClocks ms34).1 ((ms34.map encMach).length : Nat) := by rw [hM]; exact f6
        have hl8 := machines_len hok
        refine AC.skip ?_
        refine AC.seq ?_
        refine AC.seq ?_
        refine AC.region ?_
        refine AO.yld _ (Yld.move rfl) rfl rfl rfl ?_
        refine AO.yld _ (Yld.int rfl rfl rfl) rfl rfl rfl ?_
        refine AO.yld _ (Yld.move rfl) rfl rfl rfl ?_
        refine AO.splitAt 58 _ rfl (fun s58 => ?_) (fun s58 => ?_)
        · -- s58 True
          exfalso; rw [f2] at s58; simp at s58
        · -- s58 False
          refine AO.yldG _ (Yld.move rfl) rfl rfl rfl rfl rfl ?_
          refine AO.yldG _ (Yld.move rfl) rfl rfl rfl rfl rfl ?_
          refine AO.yldG _ (Yld.int rfl rfl rfl) rfl rfl rfl rfl rfl ?_
          refine AO.yld _ (Yld.pickF rfl rfl) rfl rfl rfl ?_
          refine AO.yld _ (Yld.move rfl) rfl rfl rfl ?_
          refine AO.splitAt 63 _ rfl (fun s63 => ?_) (fun s63 => ?_)
          · -- s63 True
            exfalso; have h9 := s63; simp only [decide_eq_true_eq] at h9; omega
          · -- s63 False
            refine AO.yldG _ (Yld.move rfl) rfl rfl rfl rfl rfl ?_
            refine AO.yldG _ (Yld.int rfl rfl rfl) rfl rfl rfl rfl rfl ?_
            refine AO.yld _ (Yld.pickF rfl rfl) rfl rfl rfl ?_
            refine AO.yld _ (Yld.move rfl) rfl rfl rfl ?_
            refine AO.splitAt 67 _ rfl (fun s67 => ?_) (fun s67 => ?_)
            · -- s67 True
              exfalso; have h9 := s67; simp only [decide_eq_true_eq] at h9; omega
            · -- s67 False
              refine AO.yldG _ (Yld.move rfl) rfl rfl rfl rfl rfl ?_
              refine AO.yldG _ (Yld.len Tryd.underlying39 rfl rfl) rfl rfl rfl rfl rfl ?_
              refine AO.yldG _ (Yld.move rfl) rfl rfl rfl rfl rfl ?_
              refine AO.yldG _ (Yld.add rfl rfl (by omega) (by omega)) rfl rfl rfl rfl rfl ?_
              refine AO.yldG _ (Yld.move rfl) rfl rfl rfl rfl rfl ?_
              refine AO.yldG _ (Yld.len Tryd.underlying51 rfl rfl) rfl rfl rfl rfl rfl ?_
              refine AO.yldG _ (Yld.int rfl rfl rfl) rfl rfl rfl rfl rfl ?_
              refine AO.yld _ (Yld.pickF rfl rfl) rfl rfl rfl ?_
              refine AO.yld _ (Yld.move rfl) rfl rfl rfl ?_
              refine AO.splitAt 76 _ rfl (fun s76 => ?_) (fun s76 => ?_)
              · -- s76 True
                exfalso; have h9 := s76; rw [List.length_map, hM, f5] at h9; simp at h9
              · -- s76 False
                refine AO.yldG _ (Yld.move rfl) rfl rfl rfl rfl rfl ?_
                refine AO.yldG _ (Yld.move rfl) rfl rfl rfl rfl rfl ?_
                refine AO.yldG _ (Yld.len Tryd.underlying51 rfl rfl) rfl rfl rfl rfl rfl ?_
                refine AO.yldG _ (Yld.call rfl rfl Tryd.call25 rfl rfl rfl (laws_b10Rises_c (by omega) f9) rfl) rfl rfl rfl rfl rfl ?_
                refine AO.yldG _ (Yld.not rfl) rfl rfl rfl rfl rfl ?_
                refine AO.yld _ (Yld.pickF rfl rfl) rfl rfl rfl ?_
                refine AO.nil ?_
                refine AC.cond _ rfl (fun c82 => ?_) (fun c82 => ?_)
                · -- c82 True
                  exfalso; simp at c82
                · -- c82 False
                  refine AC.skip ?_
                  refine AC.seq ?_
                  refine AC.seq ?_
                  refine AC.region ?_
                  refine AO.yld _ (Yld.assign rfl) rfl rfl rfl ?_
                  refine AO.nil ?_
                  refine AC.block ?_
                  refine AC.loopC [(1, _), (5, _), (8, _)] [(0, _), (1, _), (2, _), (900, _)] (fun (k : Nat) => [(12, .p (.v (.int .i64 (k : Int))))]) (fun (k : Nat) => []) (fun (k : Nat) => k ≤ ms34.length) (fun (k : Nat) => ms34.length - k) 0 ⟨rfl, rfl, rfl, trivial⟩ ⟨rfl, rfl, rfl, rfl, trivial⟩ ⟨rfl, trivial⟩ trivial ?_ (fun k hJ => ?_)
                  · exact Nat.zero_le _
                  · -- round
                    refine AC.seq ?_
                    refine AC.seq ?_
                    refine AC.region ?_
                    refine AO.yld _ (Yld.move rfl) rfl rfl rfl ?_
                    refine AO.yld _ (Yld.move rfl) rfl rfl rfl ?_
                    refine AO.yld _ (Yld.len Tryd.underlying51 rfl rfl) rfl rfl rfl ?_
                    refine AO.yld _ (Yld.int rfl rfl rfl) rfl rfl rfl ?_
                    refine AO.nil ?_
                    refine AC.cond _ rfl (fun c86 => ?_) (fun c86 => ?_)
                    · -- c86 True
                      have hk : k < ms34.length := by have h := c86; rw [hM] at h; simpa using h
                      obtain ⟨x, hx⟩ := get_some hk
                      have hrow := map_row (enc := encMach) hx
                      have hlx := mach_lim (machines_at hok hx)
                      have f8 := f7 x (List.mem_of_getElem? hx)
                      refine AC.skip ?_
                      refine AC.seq ?_
                      refine AC.block ?_
                      refine AC.seq ?_
                      refine AC.draw (by kernel_rfl) (by kernel_rfl) ?_
                      refine AO.yld _ (Yld.move rfl) rfl rfl rfl ?_
                      refine AO.yld _ (Yld.move rfl) rfl rfl rfl ?_
                      refine AO.yld _ (Yld.indexVec Tryd.underlying51 Tryd.sizeOf58 rfl rfl rfl rfl (by rw [List.length_map]; omega)) rfl rfl rfl ?_
                      refine AO.yld _ (Yld.fieldAddr Tryd.underlying58 rfl rfl Tryd.sizeOf2 rfl (behind_el rfl hrow) rfl) rfl rfl rfl ?_
                      refine AO.yld _ (Yld.load Tryd.isAgg2 rfl (Eq.trans (behind_el rfl hrow) rfl)) rfl rfl rfl ?_
                      refine AO.yld _ (Yld.move rfl) rfl rfl rfl ?_
                      refine AO.yld _ (Yld.move rfl) rfl rfl rfl ?_
                      refine AO.yld _ (Yld.indexVec Tryd.underlying51 Tryd.sizeOf58 rfl rfl rfl rfl (by rw [List.length_map]; omega)) rfl rfl rfl ?_
                      refine AO.yld _ (Yld.fieldAddr Tryd.underlying58 rfl rfl Tryd.sizeOf2 rfl (behind_el rfl hrow) rfl) rfl rfl rfl ?_
                      refine AO.yld _ (Yld.load Tryd.isAgg2 rfl (Eq.trans (behind_el rfl hrow) rfl)) rfl rfl rfl ?_
                      refine AO.yld _ (Yld.sub rfl rfl (by omega) (by omega)) rfl rfl rfl ?_
                      refine AO.yld _ (Yld.assign rfl) rfl rfl rfl ?_
                      refine AO.nil ?_
                      refine AC.seq ?_
                      refine AC.region ?_
                      refine AO.yld _ (Yld.assign rfl) rfl rfl rfl ?_
                      refine AO.nil ?_
                      refine AC.seq ?_
                      refine AC.seq ?_
                      refine AC.region ?_
                      refine AO.yld _ (Yld.assign rfl) rfl rfl rfl ?_
                      refine AO.nil ?_
                      refine AC.block ?_
                      refine AC.loopC [(1, _), (5, _), (8, _), (12, _), (13, _)] [(0, _), (1, _), (2, _), (900, _)] (fun (j : Nat) => [(15, .p (.v (.int .i64 (j : Int)))), (14, .p (.v (.int .i64 (countTo ms34 (beginOf x) j))))]) (fun (j : Nat) => []) (fun (j : Nat) => j ≤ ms34.length) (fun (j : Nat) => ms34.length - j) 0 ⟨rfl, rfl, rfl, rfl, rfl, trivial⟩ ⟨rfl, rfl, rfl, rfl, trivial⟩ ⟨rfl, rfl, trivial⟩ trivial ?_ (fun j hI => ?_)
                      · exact Nat.zero_le _
                      · -- round
                        refine AC.seq ?_
                        refine AC.seq ?_
                        refine AC.region ?_
                        refine AO.yld _ (Yld.move rfl) rfl rfl rfl ?_
                        refine AO.yld _ (Yld.move rfl) rfl rfl rfl ?_
                        refine AO.yld _ (Yld.len Tryd.underlying51 rfl rfl) rfl rfl rfl ?_
                        refine AO.yld _ (Yld.int rfl rfl rfl) rfl rfl rfl ?_
                        refine AO.nil ?_
                        refine AC.cond _ rfl (fun c103 => ?_) (fun c103 => ?_)
                        · -- c103 True
                          have hj : j < ms34.length := by have h := c103; rw [hM] at h; simpa using h
                          obtain ⟨y, hy⟩ := get_some hj
                          have hrowY := map_row (enc := encMach) hy
                          have hly := mach_lim (machines_at hok hy)
                          have hcl := countTo_lim (xs := ms34) (b := beginOf x) j
                          refine AC.skip ?_
                          refine AC.seq ?_
                          refine AC.block ?_
                          refine AC.seq ?_
                          refine AC.draw (by kernel_rfl) (by kernel_rfl) ?_
                          refine AO.yld _ (Yld.move rfl) rfl rfl rfl ?_
                          refine AO.yld _ (Yld.move rfl) rfl rfl rfl ?_
                          refine AO.yld _ (Yld.move rfl) rfl rfl rfl ?_
                          refine AO.yld _ (Yld.indexVec Tryd.underlying51 Tryd.sizeOf58 rfl rfl rfl rfl (by rw [List.length_map]; omega)) rfl rfl rfl ?_
                          refine AO.yld _ (Yld.fieldAddr Tryd.underlying58 rfl rfl Tryd.sizeOf2 rfl (behind_el rfl hrowY) rfl) rfl rfl rfl ?_
                          refine AO.yld _ (Yld.load Tryd.isAgg2 rfl (Eq.trans (behind_el rfl hrowY) rfl)) rfl rfl rfl ?_
                          refine AO.yld _ (Yld.move rfl) rfl rfl rfl ?_
                          refine AO.yld _ (Yld.move rfl) rfl rfl rfl ?_
                          refine AO.yld _ (Yld.indexVec Tryd.underlying51 Tryd.sizeOf58 rfl rfl rfl rfl (by rw [List.length_map]; omega)) rfl rfl rfl ?_
                          refine AO.yld _ (Yld.fieldAddr Tryd.underlying58 rfl rfl Tryd.sizeOf2 rfl (behind_el rfl hrowY) rfl) rfl rfl rfl ?_
                          refine AO.yld _ (Yld.load Tryd.isAgg2 rfl (Eq.trans (behind_el rfl hrowY) rfl)) rfl rfl rfl ?_
                          refine AO.yld _ (Yld.sub rfl rfl (by omega) (by omega)) rfl rfl rfl ?_
                          refine AO.yld _ (Yld.int rfl rfl rfl) rfl rfl rfl ?_
                          refine AO.yld _ (Yld.move rfl) rfl rfl rfl ?_
                          refine AO.splitAt 119 _ rfl (fun s119 => ?_) (fun s119 => ?_)
                          · -- s119 True
                            refine AO.yldG _ (Yld.move rfl) rfl rfl rfl rfl rfl ?_
                            refine AO.yldG _ (Yld.move rfl) rfl rfl rfl rfl rfl ?_
                            refine AO.yldG _ (Yld.move rfl) rfl rfl rfl rfl rfl ?_
                            refine AO.yldG _ (Yld.indexVec Tryd.underlying51 Tryd.sizeOf58 rfl rfl rfl rfl (by rw [List.length_map]; omega)) rfl rfl rfl rfl rfl ?_
                            refine AO.yldG _ (Yld.fieldAddr Tryd.underlying58 rfl rfl Tryd.sizeOf2 rfl (behind_el rfl hrowY) rfl) rfl rfl rfl rfl rfl ?_
                            refine AO.yldG _ (Yld.load Tryd.isAgg2 rfl (Eq.trans (behind_el rfl hrowY) rfl)) rfl rfl rfl rfl rfl ?_
                            refine AO.yldG _ (Yld.move rfl) rfl rfl rfl rfl rfl ?_
                            refine AO.yldG _ (Yld.move rfl) rfl rfl rfl rfl rfl ?_
                            refine AO.yldG _ (Yld.indexVec Tryd.underlying51 Tryd.sizeOf58 rfl rfl rfl rfl (by rw [List.length_map]; omega)) rfl rfl rfl rfl rfl ?_
                            refine AO.yldG _ (Yld.fieldAddr Tryd.underlying58 rfl rfl Tryd.sizeOf2 rfl (behind_el rfl hrowY) rfl) rfl rfl rfl rfl rfl ?_
                            refine AO.yldG _ (Yld.load Tryd.isAgg2 rfl (Eq.trans (behind_el rfl hrowY) rfl)) rfl rfl rfl rfl rfl ?_
                            refine AO.yldG _ (Yld.add rfl rfl (by omega) (by omega)) rfl rfl rfl rfl rfl ?_
                            refine AO.yldG _ (Yld.int rfl rfl rfl) rfl rfl rfl rfl rfl ?_
                            refine AO.yld _ (Yld.pickT rfl rfl) rfl rfl rfl ?_
                            refine AO.nil ?_
                            refine AC.cond _ rfl (fun c133 => ?_) (fun c133 => ?_)
                            · -- c133 True
                              have hl : liesB y (beginOf x) = true := by unfold liesB beginOf endOf; have h := s119; have h2 := c133; simp only [ge_iff_le, decide_eq_true_eq] at h h2; simp; omega
                              refine AC.region ?_
                              refine AO.yld _ (Yld.move rfl) rfl rfl rfl ?_
                              refine AO.yld _ (Yld.add rfl rfl (by omega) (by omega)) rfl rfl rfl ?_
                              refine AO.yld _ (Yld.assign rfl) rfl rfl rfl ?_
                              refine AO.nil ?_
                              refine AC.mark ?_
                              refine AC.region ?_
                              refine AO.yld _ (Yld.move rfl) rfl rfl rfl ?_
                              refine AO.yld _ (Yld.add rfl rfl (by omega) (by omega)) rfl rfl rfl ?_
                              refine AO.yld _ (Yld.assign rfl) rfl rfl rfl ?_
                              refine AO.nil ?_
                              refine AC.back ⟨j + 1, ?_, ?_, ⟨?_, ?_, trivial⟩, trivial, ⟨rfl, rfl, rfl, rfl, rfl, trivial⟩, ⟨rfl, rfl, rfl, rfl, trivial⟩⟩
                              · exact hj
                              · omega
                              · rfl
                              · show some (AV.p (PV.v (Value.int IntKind.i64 _))) = _; first | rw [countTo_T hy hl] | rw [countTo_F hy hl]
                            · -- c133 False
                              have hl : liesB y (beginOf x) = false := by unfold liesB beginOf endOf; have h2 := c133; simp only [decide_eq_false_iff_not] at h2; simp; omega
                              refine AC.skip ?_
                              refine AC.mark ?_
                              refine AC.region ?_
                              refine AO.yld _ (Yld.move rfl) rfl rfl rfl ?_
                              refine AO.yld _ (Yld.add rfl rfl (by omega) (by omega)) rfl rfl rfl ?_
                              refine AO.yld _ (Yld.assign rfl) rfl rfl rfl ?_
                              refine AO.nil ?_
                              refine AC.back ⟨j + 1, ?_, ?_, ⟨?_, ?_, trivial⟩, trivial, ⟨rfl, rfl, rfl, rfl, rfl, trivial⟩, ⟨rfl, rfl, rfl, rfl, trivial⟩⟩
                              · exact hj
                              · omega
                              · rfl
                              · show some (AV.p (PV.v (Value.int IntKind.i64 _))) = _; first | rw [countTo_T hy hl] | rw [countTo_F hy hl]
                          · -- s119 False
                            have hl : liesB y (beginOf x) = false := by unfold liesB beginOf; have h := s119; simp only [ge_iff_le, decide_eq_false_iff_not] at h; simp; omega
                            refine AO.skipT rfl rfl rfl rfl rfl ?_
                            refine AO.skipT rfl rfl rfl rfl rfl ?_
                            refine AO.skipT rfl rfl rfl rfl rfl ?_
                            refine AO.skipT rfl rfl rfl rfl rfl ?_
                            refine AO.skipT rfl rfl rfl rfl rfl ?_
                            refine AO.skipT rfl rfl rfl rfl rfl ?_
                            refine AO.skipT rfl rfl rfl rfl rfl ?_
                            refine AO.skipT rfl rfl rfl rfl rfl ?_
                            refine AO.skipT rfl rfl rfl rfl rfl ?_
                            refine AO.skipT rfl rfl rfl rfl rfl ?_
                            refine AO.skipT rfl rfl rfl rfl rfl ?_
                            refine AO.skipT rfl rfl rfl rfl rfl ?_
                            refine AO.skipT rfl rfl rfl rfl rfl ?_
                            refine AO.yld _ (Yld.pickF rfl rfl) rfl rfl rfl ?_
                            refine AO.nil ?_
                            refine AC.condF rfl ?_
                            refine AC.skip ?_
                            refine AC.mark ?_
                            refine AC.region ?_
                            refine AO.yld _ (Yld.move rfl) rfl rfl rfl ?_
                            refine AO.yld _ (Yld.add rfl rfl (by omega) (by omega)) rfl rfl rfl ?_
                            refine AO.yld _ (Yld.assign rfl) rfl rfl rfl ?_
                            refine AO.nil ?_
                            refine AC.back ⟨j + 1, ?_, ?_, ⟨?_, ?_, trivial⟩, trivial, ⟨rfl, rfl, rfl, rfl, rfl, trivial⟩, ⟨rfl, rfl, rfl, rfl, trivial⟩⟩
                            · exact hj
                            · omega
                            · rfl
                            · show some (AV.p (PV.v (Value.int IntKind.i64 _))) = _; first | rw [countTo_T hy hl] | rw [countTo_F hy hl]
                        · -- c103 False
                          obtain rfl : j = ms34.length := by have h := c103; rw [hM] at h; simp at h; omega
                          refine AC.exit rfl ?_
                          refine AC.seq ?_
                          refine AC.region ?_
                          refine AO.yld _ (Yld.move rfl) rfl rfl rfl ?_
                          refine AO.yld _ (Yld.move rfl) rfl rfl rfl ?_
                          refine AO.yld _ (Yld.int rfl rfl rfl) rfl rfl rfl ?_
                          refine AO.nil ?_
                          refine AC.cond _ rfl (fun c138 => ?_) (fun c138 => ?_)
                          · -- c138 True
                            exfalso; have h9 := c138; simp only [decide_eq_true_eq] at h9; omega
                          · -- c138 False
                            refine AC.skip ?_
                            refine AC.mark ?_
                            refine AC.region ?_
                            refine AO.yld _ (Yld.move rfl) rfl rfl rfl ?_
                            refine AO.yld _ (Yld.add rfl rfl (by omega) (by omega)) rfl rfl rfl ?_
                            refine AO.yld _ (Yld.assign rfl) rfl rfl rfl ?_
                            refine AO.nil ?_
                            refine AC.back ⟨k + 1, ?_, ?_, ⟨?_, trivial⟩, trivial, ⟨rfl, rfl, rfl, trivial⟩, ⟨rfl, rfl, rfl, rfl, trivial⟩⟩
                            · exact hk
                            · omega
                            · rfl
                    · -- c86 False
                      refine AC.exit rfl ?_
                      refine AC.seq ?_
                      refine AC.region ?_
                      refine AO.yld _ (Yld.move rfl) rfl rfl rfl ?_
                      refine AO.callW (wantedN rfl) [3] [] [0] rfl rfl Tryd.call26 rfl (spec_DrawMachineOf_c) (.own rfl) rfl (fun ⟨_, _⟩ => rfl) trivial rfl (fun ⟨_, _⟩ => rfl) (fun ⟨_, _⟩ => rfl) (fun ⟨nm141, xs141⟩ hnm141 => ?_)
                      dsimp only at hnm141
                      have hnl := hnm141.1
                      have hxl := hnm141.2
                      have hM2 : (xs141.map encSample).length = xs141.length := List.length_map ..
                      refine AO.yld _ (Yld.move rfl) rfl rfl rfl ?_
                      refine AO.yld _ (Yld.extract rfl rfl rfl) rfl rfl rfl ?_
                      refine AO.yld _ (Yld.extract rfl rfl rfl) rfl rfl rfl ?_
                      refine AO.yld _ (Yld.assign rfl) rfl rfl rfl ?_
                      refine AO.yld _ (Yld.assign rfl) rfl rfl rfl ?_
                      refine AO.nil ?_
                      refine AC.seq ?_
                      refine AC.region ?_
                      refine AO.yld _ (Yld.move rfl) rfl rfl rfl ?_
                      refine AO.yld _ (Yld.move rfl) rfl rfl rfl ?_
                      refine AO.yld _ (Yld.call rfl rfl Tryd.call27 rfl rfl rfl (impl_MachineOf_c (by omega) (by omega)) rfl) rfl rfl rfl ?_
                      refine AO.yld _ (Yld.move rfl) rfl rfl rfl ?_
                      refine AO.yld _ (Yld.extract rfl rfl rfl) rfl rfl rfl ?_
                      refine AO.yld _ (Yld.extract rfl rfl rfl) rfl rfl rfl ?_
                      refine AO.alloc 4 Tryd.zeroValue58 rfl rfl rfl ?_
                      refine AO.store Tryd.sizeOf58 rfl rfl rfl rfl rfl rfl ?_
                      refine AO.yld _ (Yld.assign rfl) rfl rfl rfl ?_
                      refine AO.nil ?_
                      refine AC.seq ?_
                      refine AC.seq ?_
                      refine AC.region ?_
                      refine AO.yld _ (Yld.move rfl) rfl rfl rfl ?_
                      refine AO.yld _ (Yld.int rfl rfl rfl) rfl rfl rfl ?_
                      refine AO.nil ?_
                      refine AC.cond _ rfl (fun c151 => ?_) (fun c151 => ?_)
                      · -- c151 True
                        have h0m : ¬ (machineOf nm141 xs141).2 = 0 := by simpa using c151
                        have hmb := machine_bad h0m
                        refine AC.seq ?_
                        refine AC.region ?_
                        refine AO.yld _ (Yld.fieldAddr Tryd.underlying58 rfl rfl Tryd.sizeOf9 rfl rfl rfl) rfl rfl rfl ?_
                        refine AO.yld _ (Yld.load Tryd.isAgg9 rfl rfl) rfl rfl rfl ?_
                        refine AO.yld _ (Yld.cmpStr rfl rfl rfl) rfl rfl rfl ?_
                        refine AO.yld _ (Yld.assign rfl) rfl rfl rfl ?_
                        refine AO.nil ?_
                        refine FnE.ret () [0] [0] Tryd.results4 (RVs.cons (RV.tmp rfl) RVs.nil) rfl rfl rfl ?_ ?_ ⟨⟨_, rfl, ?_⟩, trivial⟩
                        · -- holds
                          trivial
                        · -- value
                          first | rfl | (rw [b2]; rfl) | (rw [hmb]; rfl) | (rw [hrb]; simp; done) | (rw [hrb]; simp; rfl) | skip
                        · -- thing 0
                          first | rfl | exact vecE (by first | rfl | (simp_all; done) | grind) | (simp_all; done)
                      · -- c151 False
                        have h0m : (machineOf nm141 xs141).2 = 0 := by simpa using c151
                        obtain ⟨m1, m2, kn, sx, m3, m4, m5, m6⟩ := machine_facts h0m
                        have hml2 := mach_lim m2
                        have hmn := (name_free hml2.1).2.2
                        have hkn := lt_of_get m4
                        have hrowS := map_row (enc := encSample) m4
                        have hrb := read_back m2
                        have hmt : (machText (machineOf nm141 xs141).1).length ≤ 1048576 := by (unfold machText; rw [if_pos m2]; have h1 := itoa_len (n := (machineOf nm141 xs141).1.offset) (by omega); have h2 := itoa_len (n := (machineOf nm141 xs141).1.delay) (by omega); simp only [List.length_append, List.length_cons, List.length_nil]; omega)
                        refine AC.skip ?_
                        refine AC.seq ?_
                        refine AC.region ?_
                        refine AO.yld _ (Yld.move rfl) rfl rfl rfl ?_
                        refine AO.yld _ (Yld.call rfl rfl Tryd.call28 rfl rfl rfl (impl_BestSample_c (by first | assumption | omega)) rfl) rfl rfl rfl ?_
                        refine AO.yld _ (Yld.move rfl) rfl rfl rfl ?_
                        refine AO.yld _ (Yld.extract rfl rfl rfl) rfl rfl rfl ?_
                        refine AO.yld _ (Yld.extract rfl rfl rfl) rfl rfl rfl ?_
                        refine AO.yld _ (Yld.assign rfl) rfl rfl rfl ?_
                        refine AO.yld _ (Yld.assign rfl) rfl rfl rfl ?_
                        refine AO.nil ?_
                        refine AC.seq ?_
                        refine AC.seq ?_
                        refine AC.region ?_
                        refine AO.yld _ (Yld.move rfl) rfl rfl rfl ?_
                        refine AO.yld _ (Yld.int rfl rfl rfl) rfl rfl rfl ?_
                        refine AO.yld _ (Yld.move rfl) rfl rfl rfl ?_
                        refine AO.splitAt 162 _ rfl (fun s162 => ?_) (fun s162 => ?_)
                        · -- s162 True
                          exfalso; rw [m1] at s162; simp at s162
                        · -- s162 False
                          refine AO.yldG _ (Yld.move rfl) rfl rfl rfl rfl rfl ?_
                          refine AO.yldG _ (Yld.int rfl rfl rfl) rfl rfl rfl rfl rfl ?_
                          refine AO.yld _ (Yld.pickF rfl rfl) rfl rfl rfl ?_
                          refine AO.yld _ (Yld.move rfl) rfl rfl rfl ?_
                          refine AO.splitAt 166 _ rfl (fun s166 => ?_) (fun s166 => ?_)
                          · -- s166 True
                            exfalso; have h9 := s166; simp only [decide_eq_true_eq] at h9; omega
                          · -- s166 False
                            refine AO.yldG _ (Yld.move rfl) rfl rfl rfl rfl rfl ?_
                            refine AO.yldG _ (Yld.move rfl) rfl rfl rfl rfl rfl ?_
                            refine AO.yldG _ (Yld.len Tryd.underlying59 rfl rfl) rfl rfl rfl rfl rfl ?_
                            refine AO.yldG _ (Yld.int rfl rfl rfl) rfl rfl rfl rfl rfl ?_
                            refine AO.yld _ (Yld.pickF rfl rfl) rfl rfl rfl ?_
                            refine AO.yld _ (Yld.move rfl) rfl rfl rfl ?_
                            refine AO.splitAt 172 _ rfl (fun s172 => ?_) (fun s172 => ?_)
                            · -- s172 True
                              exfalso; have h9 := s172; rw [hM2] at h9; simp only [ge_iff_le, decide_eq_true_eq] at h9; omega
                            · -- s172 False
                              refine AO.yldG _ (Yld.loadAgg Tryd.isAgg58 Tryd.sizeOf58 rfl rfl rfl rfl) rfl rfl rfl rfl rfl ?_
                              refine AO.guarded rfl rfl ?_
                              refine AO.buildSlice (rows := [[_, _, _]]) 5 Tryd.underlying51 ty58 rfl rfl rfl rfl rfl rfl rfl rfl rfl ?_
                              refine AO.yldG _ (Yld.call rfl rfl Tryd.call29 rfl rfl rfl (spec_ValidMachines_c (xs := [(machineOf nm141 xs141).1]) (by simp) (by intro x hx; rw [List.mem_singleton] at hx; subst hx; omega)) rfl) rfl rfl rfl rfl rfl ?_
                              refine AO.yldG _ (Yld.not rfl) rfl rfl rfl rfl rfl ?_
                              refine AO.yld _ (Yld.pickF rfl rfl) rfl rfl rfl ?_
                              refine AO.nil ?_
                              refine AC.cond _ rfl (fun c177 => ?_) (fun c177 => ?_)
                              · -- c177 True
                                exfalso; rw [okMachines_one m2] at c177; simp at c177
                              · -- c177 False
                                refine AC.skip ?_
                                refine AC.seq ?_
                                refine AC.region ?_
                                refine AO.yld _ (Yld.move rfl) rfl rfl rfl ?_
                                refine AO.yld _ (Yld.move rfl) rfl rfl rfl ?_
                                refine AO.yld _ (Yld.indexVec Tryd.underlying59 Tryd.sizeOf69 rfl rfl rfl m3 (by rw [List.length_map]; omega)) rfl rfl rfl ?_
                                refine AO.yld _ (Yld.loadAgg Tryd.isAgg69 Tryd.sizeOf69 rfl (behind_el rfl hrowS) rfl rfl) rfl rfl rfl ?_
                                refine AO.yld _ (Yld.call rfl rfl Tryd.call30 rfl rfl rfl (impl_OffsetOf_c) rfl) rfl rfl rfl ?_
                                refine AO.yld _ (Yld.move rfl) rfl rfl rfl ?_
                                refine AO.yld _ (Yld.extract rfl rfl rfl) rfl rfl rfl ?_
                                refine AO.yld _ (Yld.extract rfl rfl rfl) rfl rfl rfl ?_
                                refine AO.yld _ (Yld.extract rfl rfl rfl) rfl rfl rfl ?_
                                refine AO.yld _ (Yld.assign rfl) rfl rfl rfl ?_
                                refine AO.yld _ (Yld.assign rfl) rfl rfl rfl ?_
                                refine AO.yld _ (Yld.assign rfl) rfl rfl rfl ?_
                                refine AO.nil ?_
                                refine AC.seq ?_
                                refine AC.region ?_
                                refine AO.yld _ (Yld.loadAgg Tryd.isAgg58 Tryd.sizeOf58 rfl rfl rfl rfl) rfl rfl rfl ?_
                                refine AO.callW (wantedN rfl) [0] [0] [0] rfl rfl Tryd.call32 rfl (impl_MachineText_c (by omega)) (.own rfl) rfl (fun _ => rfl) ⟨rfl, trivial⟩ rfl (fun _ => rfl) (fun _ => rfl) (fun _ _ => ?_)
                                refine AO.callW (wantedN rfl) [0] [0] [0] rfl rfl Tryd.call31 rfl (impl_ReadMachine_c (by first | assumption | omega)) (.own rfl) rfl (fun _ => rfl) ⟨rfl, trivial⟩ rfl (fun _ => rfl) (fun _ => rfl) (fun _ _ => ?_)
                                refine AO.yld _ (Yld.move rfl) rfl rfl rfl ?_
                                refine AO.yld _ (Yld.extract rfl rfl rfl) rfl rfl rfl ?_
                                refine AO.yld _ (Yld.extract rfl rfl rfl) rfl rfl rfl ?_
                                refine AO.alloc 6 Tryd.zeroValue58 rfl rfl rfl ?_
                                refine AO.store Tryd.sizeOf58 rfl rfl rfl rfl rfl rfl ?_
                                refine AO.yld _ (Yld.assign rfl) rfl rfl rfl ?_
                                refine AO.nil ?_
                                refine AC.seq ?_
                                refine AC.region ?_
                                refine AO.yld _ (Yld.move rfl) rfl rfl rfl ?_
                                refine AO.yld _ (Yld.int rfl rfl rfl) rfl rfl rfl ?_
                                refine AO.yld _ (Yld.move rfl) rfl rfl rfl ?_
                                refine AO.splitAt 195 _ rfl (fun s195 => ?_) (fun s195 => ?_)
                                · -- s195 True
                                  refine AO.yldG _ (Yld.move rfl) rfl rfl rfl rfl rfl ?_
                                  refine AO.yldG _ (Yld.fieldAddr Tryd.underlying58 rfl rfl Tryd.sizeOf2 rfl rfl rfl) rfl rfl rfl rfl rfl ?_
                                  refine AO.yldG _ (Yld.load Tryd.isAgg2 rfl rfl) rfl rfl rfl rfl rfl ?_
                                  refine AO.yldG _ (Yld.int rfl rfl rfl) rfl rfl rfl rfl rfl ?_
                                  refine AO.yld _ (Yld.pickT rfl rfl) rfl rfl rfl ?_
                                  refine AO.yld _ (Yld.move rfl) rfl rfl rfl ?_
                                  refine AO.splitAt 201 _ rfl (fun s201 => ?_) (fun s201 => ?_)
                                  · -- s201 True
                                    refine AO.yldG _ (Yld.move rfl) rfl rfl rfl rfl rfl ?_
                                    refine AO.yldG _ (Yld.fieldAddr Tryd.underlying58 rfl rfl Tryd.sizeOf2 rfl rfl rfl) rfl rfl rfl rfl rfl ?_
                                    refine AO.yldG _ (Yld.load Tryd.isAgg2 rfl rfl) rfl rfl rfl rfl rfl ?_
                                    refine AO.yldG _ (Yld.int rfl rfl rfl) rfl rfl rfl rfl rfl ?_
                                    refine AO.yld _ (Yld.pickT rfl rfl) rfl rfl rfl ?_
                                    refine AO.yld _ (Yld.move rfl) rfl rfl rfl ?_
                                    refine AO.splitAt 207 _ rfl (fun s207 => ?_) (fun s207 => ?_)
                                    · -- s207 True
                                      refine AO.yldG _ (Yld.move rfl) rfl rfl rfl rfl rfl ?_
                                      refine AO.yldG _ (Yld.int rfl rfl rfl) rfl rfl rfl rfl rfl ?_
                                      refine AO.yld _ (Yld.pickT rfl rfl) rfl rfl rfl ?_
                                      refine AO.yld _ (Yld.move rfl) rfl rfl rfl ?_
                                      refine AO.splitAt 211 _ rfl (fun s211 => ?_) (fun s211 => ?_)
                                      · -- s211 True
                                        refine AO.yldG _ (Yld.move rfl) rfl rfl rfl rfl rfl ?_
                                        refine AO.yld _ (Yld.pickT rfl rfl) rfl rfl rfl ?_
                                        refine AO.yld _ (Yld.move rfl) rfl rfl rfl ?_
                                        refine AO.splitAt 214 _ rfl (fun s214 => ?_) (fun s214 => ?_)
                                        · -- s214 True
                                          refine AO.yldG _ (Yld.loadAgg Tryd.isAgg58 Tryd.sizeOf58 rfl rfl rfl rfl) rfl rfl rfl rfl rfl ?_
                                          refine AO.yldG _ (Yld.loadAgg Tryd.isAgg58 Tryd.sizeOf58 rfl rfl rfl rfl) rfl rfl rfl rfl rfl ?_
                                          refine AO.yldG _ (Yld.binV rfl rfl rfl rfl rfl rfl (by exact eqsMachine)) rfl rfl rfl rfl rfl ?_
                                          refine AO.yld _ (Yld.pickT rfl rfl) rfl rfl rfl ?_
                                          refine AO.yld _ (Yld.assign rfl) rfl rfl rfl ?_
                                          refine AO.nil ?_
                                          refine FnE.ret () [0] [0] Tryd.results4 (RVs.cons (RV.tmp rfl) RVs.nil) rfl rfl rfl ?_ ?_ ⟨⟨_, rfl, ?_⟩, trivial⟩
                                          · -- holds
                                            trivial
                                          · -- value
                                            first | rfl | (rw [b2]; rfl) | (rw [hmb]; rfl) | (rw [hrb]; simp; done) | (rw [hrb]; simp; rfl) | skip
                                          · -- thing 0
                                            first | rfl | exact vecE (by first | rfl | (simp_all; done) | grind) | (simp_all; done)
                                        · -- s214 False
                                          exfalso; rw [hrb] at s214; simp at s214
                                      · -- s211 False
                                        exfalso; rw [m5] at s211; simp at s211; omega
                                    · -- s207 False
                                      exfalso; rw [m5] at s207; simp at s207
                                  · -- s201 False
                                    exfalso; rw [m5] at s201; simp at s201
                                · -- s195 False
                                  exfalso; rw [m5] at s195; simp at s195

end Go.Proofs.YtghcdgjbgljipaaDoor
