/- Contracts of functions of the program, each by a walk of its text in the calculus V. -/
import Derived.Test.YtdlpkfihjfmgeaaRA
import Derived.Test.YtdlpkfihjfmgeaaD33
import Derived.Test.YtdlpkfihjfmgeaaSh
set_option linter.all false
set_option linter.unusedSimpArgs false
set_option linter.unnecessarySimpa false
set_option linter.unusedVariables false
namespace Go.Proofs.Ytdlpkfihjfmgeaa
open Go Go.V
theorem ty9 : TyIs Try.prog 9 (.string ⟨#[]⟩) 1 16 := by unfold TyIs; kernel_rfl
theorem ty26 : TyIs Try.prog 26 (.slice none 0 0) 1 24 := by unfold TyIs; kernel_rfl
theorem bld62 : BuildIs Try.prog 62 [(0, 1), (1, 1)] (.agg #[.string ⟨#[]⟩, .int .i64 0]) := by
  intro ps cells w h
  have h2 : Instr.fill (fun i => ([(0, 1), (1, 1)] : List (Nat × Nat))[i]?) #[.string ⟨#[]⟩, .int .i64 0] ps.toList = some cells := h
  simp [Instr.build, go_sem, Try.zeroValue62, run_underlying Try.underlying62, Try.sizeOf2, Try.sizeOf9, h2]

theorem growSetting_c {n : Nat} (hn : n ≤ 1000000) :
    FnE (α := Unit) Try.prog 94 [.p (.v (.slice none 0 0)), .p (.v (.int .i64 (n : Int)))] [] [] (fun _ => True) (fun _ => .h 0) (fun _ => [(0, .vec 62 2 [])]) := by
  refine FnE.intro Try.func94 rfl Try.ntmps94 rfl rfl (fun w0 F0 η φ w => ?_)
  refine AC.seq ?_
  refine AC.region ?_
  refine AO.yld _ (Yld.assign rfl) rfl rfl rfl ?_
  refine AO.nil ?_
  refine AC.seq ?_
  refine AC.seq ?_
  refine AC.region ?_
  refine AO.yld _ (Yld.move rfl) rfl rfl rfl ?_
  refine AO.yld _ (Yld.int rfl rfl rfl) rfl rfl rfl ?_
  refine AO.nil ?_
  refine AC.cond _ rfl (fun c6 => ?_) (fun c6 => ?_)
  · -- c6 True
    exfalso; have h := c6; simp at h; omega
  · -- c6 False
    refine AC.skip ?_
    refine AC.seq ?_
    refine AC.seq ?_
    refine AC.region ?_
    refine AO.yld _ (Yld.move rfl) rfl rfl rfl ?_
    refine AO.yld _ (Yld.move rfl) rfl rfl rfl ?_
    refine AO.yld _ (Yld.capNil Try.underlying26 rfl) rfl rfl rfl ?_
    refine AO.yld _ (Yld.move rfl) rfl rfl rfl ?_
    refine AO.yld _ (Yld.lenNil Try.underlying26 rfl) rfl rfl rfl ?_
    refine AO.yld _ (Yld.sub rfl rfl (by omega) (by omega)) rfl rfl rfl ?_
    refine AO.yld _ (Yld.sub rfl rfl (by omega) (by omega)) rfl rfl rfl ?_
    refine AO.yld _ (Yld.assign rfl) rfl rfl rfl ?_
    have hsub : (n : Int) - (0 - 0) = (n : Int) := by omega
    refine AO.nil ?_
    refine AC.seq ?_
    refine AC.region ?_
    refine AO.yld _ (Yld.move rfl) rfl rfl rfl ?_
    refine AO.yld _ (Yld.int rfl rfl rfl) rfl rfl rfl ?_
    refine AO.nil ?_
    refine AC.cond _ rfl (fun c16 => ?_) (fun c16 => ?_)
    · -- c16 True
      have hn0 : 0 < n := by have h := c16; simp at h; omega
      refine AC.region ?_
      refine AO.yld _ (Yld.move rfl) rfl rfl rfl ?_
      refine AO.yld _ (Yld.move rfl) rfl rfl rfl ?_
      refine AO.yld _ (Yld.capNil Try.underlying26 rfl) rfl rfl rfl ?_
      refine AO.yld _ (Yld.sliceNil Try.underlying26 Try.sizeOf62 rfl rfl) rfl rfl rfl ?_
      refine AO.yld _ (Yld.move rfl) rfl rfl rfl ?_
      refine AO.appendMake 0 Try.underlying26 Try.underlying3 ty62 rfl rfl rfl rfl rfl hn0 (show n * 24 ≤ _ by omega) (show n ≤ _ by omega) rfl rfl ?_
      refine AO.yld _ (Yld.move rfl) rfl rfl rfl ?_
      refine AO.yld _ (Yld.lenNil Try.underlying26 rfl) rfl rfl rfl ?_
      refine AO.truncate 0 Try.underlying26 Try.sizeOf62 rfl rfl (.some (n := 0) rfl (by rfl)) (by omega) rfl ?_
      refine AO.yld _ (Yld.assign rfl) rfl rfl rfl ?_
      refine AO.nil ?_
      refine AC.seq ?_
      refine AC.region ?_
      refine AO.yld _ (Yld.move rfl) rfl rfl rfl ?_
      refine AO.yld _ (Yld.assign rfl) rfl rfl rfl ?_
      refine AO.nil ?_
      refine FnE.ret () [0] [0] Try.results94 (RVs.cons (RV.tmp rfl) RVs.nil) rfl rfl rfl ?_ ?_ ⟨⟨_, rfl, ?_⟩, trivial⟩
      · -- holds
        trivial
      · -- value
        rfl
      · -- thing 0
        rfl
    · -- c16 False
      refine AC.skip ?_
      refine AC.seq ?_
      refine AC.region ?_
      refine AO.yld _ (Yld.move rfl) rfl rfl rfl ?_
      refine AO.yld _ (Yld.assign rfl) rfl rfl rfl ?_
      refine AO.nil ?_
      refine AC.nilVec 4 0 62 2 rfl rfl ?_
      refine FnE.ret () [0] [0] Try.results94 (RVs.cons (RV.tmp rfl) RVs.nil) rfl rfl rfl ?_ ?_ ⟨⟨_, rfl, ?_⟩, trivial⟩
      · -- holds
        trivial
      · -- value
        rfl
      · -- thing 0
        rfl

theorem concatSetting_c {xss : List (List NV)} (hx : xss.length ≤ 3) (hl : ∀ l ∈ xss, l.length ≤ 1000) :
    FnE (α := Unit) Try.prog 73 [.p (.sl 1 (xss.map encL))] [] [] (fun _ => True) (fun _ => .h 0) (fun _ => [(0, .vec 62 2 (xss.flatten.map encNV))]) := by
  refine FnE.intro Try.func73 rfl Try.ntmps73 rfl rfl (fun w0 F0 η φ w => ?_)
  refine AC.seq ?_
  refine AC.region ?_
  refine AO.yld _ (Yld.assign rfl) rfl rfl rfl ?_
  refine AO.nil ?_
  refine AC.seq ?_
  refine AC.region ?_
  refine AO.yld _ (Yld.assign rfl) rfl rfl rfl ?_
  refine AO.nil ?_
  refine AC.seq ?_
  refine AC.seq ?_
  refine AC.region ?_
  refine AO.yld _ (Yld.move rfl) rfl rfl rfl ?_
  refine AO.yld _ (Yld.len Try.underlying126 rfl rfl) rfl rfl rfl ?_
  refine AO.yld _ (Yld.move rfl) rfl rfl rfl ?_
  refine AO.nil ?_
  refine AC.block ?_
  refine AC.loopC [(0, _), (2, _), (9, _), (10, _)] [(900, _)] (fun (k : Nat) => [(11, .p (.v (.int .i64 (k : Int)))), (3, .p (.v (.int .i64 ((xss.take k).flatten.length : Int))))]) (fun (k : Nat) => []) (fun (k : Nat) => k ≤ xss.length) (fun (k : Nat) => xss.length - k) 0 ⟨rfl, rfl, rfl, rfl, trivial⟩ ⟨rfl, trivial⟩ ⟨rfl, rfl, trivial⟩ trivial ?_ (fun k hJ => ?_)
  · exact Nat.zero_le _
  · -- round
    refine AC.seq ?_
    refine AC.region ?_
    refine AO.yld _ (Yld.int rfl rfl rfl) rfl rfl rfl ?_
    refine AO.nil ?_
    refine AC.seq ?_
    refine AC.cond _ rfl (fun c12 => ?_) (fun c12 => ?_)
    · -- c12 True
      have hk := lt_of_decM c12
      obtain ⟨x, hx9⟩ := get_some hk
      have hrow := map_row (enc := encL) hx9
      have hb1 := flat_len hl k
      have hb2 : (x.map encNV).length ≤ 1000 := by rw [List.length_map]; exact hl x (List.mem_of_getElem? hx9)
      have hst := flat_succ hx9
      refine AC.skip ?_
      refine AC.seq ?_
      refine AC.block ?_
      refine AC.seq ?_
      refine AC.region ?_
      refine AO.yld _ (Yld.indexSl Try.underlying126 Try.sizeOf26 rfl rfl hrow rfl) rfl rfl rfl ?_
      refine AO.yld _ (Yld.load Try.isAgg26 rfl rfl) rfl rfl rfl ?_
      refine AO.yld _ (Yld.assign rfl) rfl rfl rfl ?_
      refine AO.nil ?_
      refine AC.seq ?_
      refine AC.region ?_
      refine AO.yld _ (Yld.move rfl) rfl rfl rfl ?_
      refine AO.yld _ (Yld.move rfl) rfl rfl rfl ?_
      refine AO.yld _ (Yld.len Try.underlying26 rfl rfl) rfl rfl rfl ?_
      refine AO.yld _ (Yld.add rfl rfl (by omega) (by omega)) rfl rfl rfl ?_
      refine AO.yld _ (Yld.assign rfl) rfl rfl rfl ?_
      refine AO.nil ?_
      refine AC.seq ?_
      refine AC.region ?_
      refine AO.yld _ (Yld.move rfl) rfl rfl rfl ?_
      refine AO.yld _ (Yld.int rfl rfl rfl) rfl rfl rfl ?_
      refine AO.nil ?_
      refine AC.cond _ rfl (fun c20 => ?_) (fun c20 => ?_)
      · -- c20 True
        exfalso; have h := c20; rw [hst] at h; simp at h; omega
      · -- c20 False
        refine AC.skip ?_
        refine AC.mark ?_
        refine AC.region ?_
        refine AO.yld _ (Yld.add rfl rfl (by omega) (by omega)) rfl rfl rfl ?_
        refine AO.yld _ (Yld.move rfl) rfl rfl rfl ?_
        refine AO.nil ?_
        refine AC.back ⟨k + 1, ?_, ?_, ⟨?_, ?_, trivial⟩, trivial, ⟨rfl, rfl, rfl, rfl, trivial⟩, ⟨rfl, trivial⟩⟩
        · exact hk
        · omega
        · rfl
        · show some (AV.p (PV.v (Value.int IntKind.i64 _))) = _; rw [← hst]
    · -- c12 False
      obtain rfl : k = xss.length := by have := ge_of_decM c12; omega
      have hb1 := flat_len hl xss.length
      refine AC.exit rfl ?_
      refine AC.seq ?_
      refine AC.region ?_
      refine AO.yld _ (Yld.move rfl) rfl rfl rfl ?_
      refine AO.callW (wantedN rfl) [0] [] [0] rfl rfl Try.call94 rfl (growSetting_c (n := (xss.take xss.length).flatten.length) (by omega)) (.flat (.view rfl rfl (.view rfl rfl .nil)) (fun _ => by simp [AV.Flat, AV.FlatL, PV.Flat, PV.FlatL]) (fun _ => by simp [FlatH, Res.Flat])) rfl (fun _ => rfl) trivial rfl (fun _ => rfl) (fun _ => rfl) (fun _ _ => ?_)
      refine AO.yld _ (Yld.assign rfl) rfl rfl rfl ?_
      refine AO.nil ?_
      refine AC.seq ?_
      refine AC.seq ?_
      refine AC.region ?_
      refine AO.yld _ (Yld.move rfl) rfl rfl rfl ?_
      refine AO.yld _ (Yld.len Try.underlying126 rfl rfl) rfl rfl rfl ?_
      refine AO.yld _ (Yld.move rfl) rfl rfl rfl ?_
      refine AO.nil ?_
      refine AC.block ?_
      refine AC.loopC [(2, _), (25, _), (26, _)] [(900, _)] (fun (k : Nat) => [(27, .p (.v (.int .i64 (k : Int)))), (6, .h 0)]) (fun (k : Nat) => [(0, .vec 62 2 ((xss.take k).flatten.map encNV))]) (fun (k : Nat) => k ≤ xss.length) (fun (k : Nat) => xss.length - k) 0 ⟨rfl, rfl, rfl, trivial⟩ ⟨rfl, trivial⟩ ⟨rfl, rfl, trivial⟩ ⟨rfl, trivial⟩ ?_ (fun k hJ => ?_)
      · exact Nat.zero_le _
      · -- round
        refine AC.seq ?_
        refine AC.region ?_
        refine AO.yld _ (Yld.int rfl rfl rfl) rfl rfl rfl ?_
        refine AO.nil ?_
        refine AC.seq ?_
        refine AC.cond _ rfl (fun c28 => ?_) (fun c28 => ?_)
        · -- c28 True
          have hk := lt_of_decM c28
          obtain ⟨x, hx9⟩ := get_some hk
          have hrow := map_row (enc := encL) hx9
          have hb1 := flat_len hl k
          have hb2 : (x.map encNV).length ≤ 1000 := by rw [List.length_map]; exact hl x (List.mem_of_getElem? hx9)
          have hst := flat_succ hx9
          refine AC.skip ?_
          refine AC.seq ?_
          refine AC.block ?_
          refine AC.seq ?_
          refine AC.region ?_
          refine AO.yld _ (Yld.indexSl Try.underlying126 Try.sizeOf26 rfl rfl hrow rfl) rfl rfl rfl ?_
          refine AO.yld _ (Yld.load Try.isAgg26 rfl rfl) rfl rfl rfl ?_
          refine AO.yld _ (Yld.assign rfl) rfl rfl rfl ?_
          refine AO.nil ?_
          refine AC.region ?_
          refine AO.yld _ (Yld.move rfl) rfl rfl rfl ?_
          refine AO.yld _ (Yld.move rfl) rfl rfl rfl ?_
          refine AO.append 0 Try.underlying26 ty62 rfl rfl rfl rfl rfl rfl rfl (fun r hr q hq => by obtain ⟨y, _, rfl⟩ := List.mem_map.1 hr; simp only [encNV, List.mem_cons, List.not_mem_nil, or_false] at hq; rcases hq with rfl | rfl <;> rfl) (by rw [List.length_map]; omega) (by rw [List.length_map]; omega) rfl ?_
          refine AO.yld _ (Yld.assign rfl) rfl rfl rfl ?_
          refine AO.nil ?_
          refine AC.mark ?_
          refine AC.region ?_
          refine AO.yld _ (Yld.add rfl rfl (by omega) (by omega)) rfl rfl rfl ?_
          refine AO.yld _ (Yld.move rfl) rfl rfl rfl ?_
          refine AO.nil ?_
          refine AC.back ⟨k + 1, ?_, ?_, ⟨?_, ?_, trivial⟩, ⟨?_, trivial⟩, ⟨rfl, rfl, rfl, trivial⟩, ⟨rfl, trivial⟩⟩
          · exact hk
          · omega
          · rfl
          · rfl
          · rw [← flat_snoc hx9]; rfl
        · -- c28 False
          obtain rfl : k = xss.length := by have := ge_of_decM c28; omega
          have hb1 := flat_len hl xss.length
          refine AC.exit rfl ?_
          refine AC.seq ?_
          refine AC.region ?_
          refine AO.yld _ (Yld.move rfl) rfl rfl rfl ?_
          refine AO.yld _ (Yld.assign rfl) rfl rfl rfl ?_
          refine AO.nil ?_
          refine FnE.ret () [0] [0] Try.results73 (RVs.cons (RV.tmp rfl) RVs.nil) rfl rfl rfl ?_ ?_ ⟨⟨_, rfl, ?_⟩, trivial⟩
          · -- holds
            trivial
          · -- value
            rfl
          · -- thing 0
            rw [List.take_of_length_le (Nat.le_refl _)]; rfl

theorem impl_valueIn_c {xs : List NV} {n : List UInt8} (hn : xs.length ≤ 1048576) :
    Pure Try.prog 76 [.sl 2 (xs.map encNV), .v (str n)] (.v (.int .i64 (vIn xs n))) := by
  refine Pure.intro Try.func76 rfl Try.ntmps76 rfl rfl (fun w => ?_)
  refine AC.seq ?_
  refine AC.region ?_
  refine AO.yld _ (Yld.assign rfl) rfl rfl rfl ?_
  refine AO.nil ?_
  refine AC.seq ?_
  refine AC.seq ?_
  refine AC.region ?_
  refine AO.yld _ (Yld.move rfl) rfl rfl rfl ?_
  refine AO.yld _ (Yld.move rfl) rfl rfl rfl ?_
  refine AO.yld _ (Yld.call rfl rfl Try.call41 rfl rfl rfl (impl_settingIndex_c (by first | assumption | omega)) rfl) rfl rfl rfl ?_
  refine AO.yld _ (Yld.assign rfl) rfl rfl rfl ?_
  refine AO.nil ?_
  refine AC.seq ?_
  refine AC.region ?_
  refine AO.yld _ (Yld.move rfl) rfl rfl rfl ?_
  refine AO.yld _ (Yld.int rfl rfl rfl) rfl rfl rfl ?_
  refine AO.nil ?_
  refine AC.cond _ rfl (fun c10 => ?_) (fun c10 => ?_)
  · -- c10 True
    have h0 : 0 ≤ idxOf (nameIs n) xs := by simpa using c10
    obtain ⟨kx, x, hix, hx, hxn, hf⟩ := (idx_find xs n).resolve_left (fun h1 => by have := h1.1; omega)
    have hrow := map_row (enc := encNV) hx
    rw [hix]
    refine AC.seq ?_
    refine AC.region ?_
    refine AO.yld _ (Yld.move rfl) rfl rfl rfl ?_
    refine AO.yld _ (Yld.move rfl) rfl rfl rfl ?_
    refine AO.yld _ (Yld.indexSl Try.underlying26 Try.sizeOf62 rfl rfl hrow rfl) rfl rfl rfl ?_
    refine AO.yld _ (Yld.fieldAddr Try.underlying62 rfl rfl Try.sizeOf2 rfl rfl rfl) rfl rfl rfl ?_
    refine AO.yld _ (Yld.load Try.isAgg2 rfl rfl) rfl rfl rfl ?_
    refine AO.yld _ (Yld.assign rfl) rfl rfl rfl ?_
    refine AO.nil ?_
    refine Pure.ret Try.results76 (RVs.cons (RV.tmp rfl) RVs.nil) rfl ?_
    first | exact ci (vIn_hit hf).symm | exact ci (vIn_miss hf).symm | exact ci (vIn_hit hf) | exact ci (vIn_miss hf)
  · -- c10 False
    have h0 : ¬ 0 ≤ idxOf (nameIs n) xs := by simpa using c10
    have hf : xs.find? (nameIs n) = none := (idx_find xs n).elim (fun h1 => h1.2) (fun ⟨_, _, h1, _⟩ => by omega)
    refine AC.skip ?_
    refine AC.seq ?_
    refine AC.region ?_
    refine AO.yld _ (Yld.assign rfl) rfl rfl rfl ?_
    refine AO.nil ?_
    refine Pure.ret Try.results76 (RVs.cons (RV.tmp rfl) RVs.nil) rfl ?_
    first | exact ci (vIn_hit hf).symm | exact ci (vIn_miss hf).symm | exact ci (vIn_hit hf) | exact ci (vIn_miss hf)

theorem impl_mergeStates_c {base a b : List NV} (hb : base.length ≤ 1000) (ha : a.length ≤ 1000) (hb2 : b.length ≤ 1000) :
    FnE (α := Unit) Try.prog 52 [.p (.sl 2 (base.map encNV)), .p (.sl 2 (a.map encNV)), .p (.sl 2 (b.map encNV))] [] [] (fun _ => True) (fun _ => .tup [.h 0, .h 1]) (fun _ => [(0, .vec 9 1 ((conflL base a b).map Go.V.encS)), (1, .vec 62 2 ((mergeL base a b).map encNV))]) := by
  have hL : [base, a, b].flatten.length ≤ 3000 := by simp; omega
  have hN := names3_len base a b
  have hS : (sortL (namesOf [base, a, b].flatten)).length ≤ 1048576 := by simp [sortL, namesOf]; omega
  have hS1 : (namesOf [base, a, b].flatten).length ≤ 1048576 := by simp only [namesOf, List.length_map]; omega
  refine FnE.intro Try.func52 rfl Try.ntmps52 rfl rfl (fun w0 F0 η φ w => ?_)
  refine AC.seq ?_
  refine AC.region ?_
  refine AO.yld _ (Yld.assign rfl) rfl rfl rfl ?_
  refine AO.yld _ (Yld.assign rfl) rfl rfl rfl ?_
  refine AO.nil ?_
  refine AC.seq ?_
  refine AC.region ?_
  refine AO.yld _ (Yld.assign rfl) rfl rfl rfl ?_
  refine AO.nil ?_
  refine AC.seq ?_
  refine AC.seq ?_
  refine AC.region ?_
  refine AO.yld _ (Yld.move rfl) rfl rfl rfl ?_
  refine AO.yld _ (Yld.move rfl) rfl rfl rfl ?_
  refine AO.yld _ (Yld.move rfl) rfl rfl rfl ?_
  refine AO.buildSlice (rows := [[_], [_], [_]]) 0 Try.underlying126 ty26 rfl rfl rfl rfl rfl rfl rfl rfl rfl ?_
  refine AO.callW (wantedN rfl) [1] [] [0] rfl rfl Try.call73 rfl (concatSetting_c (xss := [base, a, b]) (by simp) (by intro l hl; simp only [List.mem_cons, List.not_mem_nil, or_false] at hl; rcases hl with rfl | rfl | rfl <;> assumption)) (.flat (.vec rfl rfl .nil) (fun _ => by simp [AV.Flat, AV.FlatL, PV.Flat, PV.FlatL]) (fun _ => ⟨flat_map flatNV _, trivial⟩)) rfl (fun _ => rfl) trivial rfl (fun _ => rfl) (fun _ => rfl) (fun _ _ => ?_)
  refine AO.freeze 1 rfl ?_
  refine AO.yld _ (Yld.len Try.underlying26 rfl rfl) rfl rfl rfl ?_
  refine AO.yld _ (Yld.move rfl) rfl rfl rfl ?_
  refine AO.nil ?_
  refine AC.block ?_
  refine AC.nilVec 8 2 9 1 rfl rfl ?_
  refine AC.loopC [(0, _), (1, _), (2, _), (6, _), (7, _), (22, _), (23, _)] [(0, _), (900, _)] (fun (k : Nat) => [(24, .p (.v (.int .i64 (k : Int)))), (8, .h 2)]) (fun (k : Nat) => [(2, .vec 9 1 ((namesOf ([base, a, b].flatten.take k)).map Go.V.encS))]) (fun (k : Nat) => k ≤ [base, a, b].flatten.length) (fun (k : Nat) => [base, a, b].flatten.length - k) 0 ⟨rfl, rfl, rfl, rfl, rfl, rfl, rfl, trivial⟩ ⟨rfl, rfl, trivial⟩ ⟨rfl, rfl, trivial⟩ ⟨rfl, trivial⟩ ?_ (fun k hJ => ?_)
  · exact Nat.zero_le _
  · -- round
    refine AC.seq ?_
    refine AC.region ?_
    refine AO.yld _ (Yld.int rfl rfl rfl) rfl rfl rfl ?_
    refine AO.nil ?_
    refine AC.seq ?_
    refine AC.cond _ rfl (fun c25 => ?_) (fun c25 => ?_)
    · -- c25 True
      have hk := lt_of_decM c25
      obtain ⟨x, hx9⟩ := get_some hk
      have hrow := map_row (enc := encNV) hx9
      have hnn : (namesOf ([base, a, b].flatten.take k)).length ≤ k := by simp only [namesOf, List.length_map, List.length_take]; omega
      refine AC.skip ?_
      refine AC.seq ?_
      refine AC.block ?_
      refine AC.seq ?_
      refine AC.region ?_
      refine AO.yld _ (Yld.indexSl Try.underlying26 Try.sizeOf62 rfl rfl hrow rfl) rfl rfl rfl ?_
      refine AO.yld _ (Yld.loadAgg Try.isAgg62 Try.sizeOf62 rfl rfl rfl rfl) rfl rfl rfl ?_
      refine AO.alloc 3 Try.zeroValue62 rfl rfl rfl ?_
      refine AO.store Try.sizeOf62 rfl rfl rfl rfl rfl rfl ?_
      refine AO.nil ?_
      refine AC.region ?_
      refine AO.yld _ (Yld.move rfl) rfl rfl rfl ?_
      refine AO.yld _ (Yld.fieldAddr Try.underlying62 rfl rfl Try.sizeOf9 rfl rfl rfl) rfl rfl rfl ?_
      refine AO.yld _ (Yld.load Try.isAgg9 rfl rfl) rfl rfl rfl ?_
      refine AO.buildSlice (rows := [[_]]) 4 Try.underlying42 ty9 rfl rfl rfl rfl rfl rfl rfl rfl rfl ?_
      refine AO.append 2 Try.underlying42 ty9 rfl rfl rfl rfl rfl rfl rfl (by simp [pvOne, str]) (by simp only [List.length_map, List.length_cons, List.length_nil]; omega) (by simp only [List.length_map, List.length_cons, List.length_nil]; omega) rfl ?_
      refine AO.yld _ (Yld.assign rfl) rfl rfl rfl ?_
      refine AO.nil ?_
      refine AC.mark ?_
      refine AC.region ?_
      refine AO.yld _ (Yld.add rfl rfl (by omega) (by omega)) rfl rfl rfl ?_
      refine AO.yld _ (Yld.move rfl) rfl rfl rfl ?_
      refine AO.nil ?_
      refine AC.back ⟨k + 1, ?_, ?_, ⟨?_, ?_, trivial⟩, ⟨?_, trivial⟩, ⟨rfl, rfl, rfl, rfl, rfl, rfl, rfl, trivial⟩, ⟨rfl, rfl, trivial⟩⟩
      · exact hk
      · omega
      · rfl
      · rfl
      · rw [← names_snoc hx9]; rfl
    · -- c25 False
      obtain rfl : k = [base, a, b].flatten.length := by have := ge_of_decM c25; omega
      rw [List.take_of_length_le (Nat.le_refl _)]
      refine AC.exit rfl ?_
      refine AC.seq ?_
      refine AC.region ?_
      refine AO.yld _ (Yld.move rfl) rfl rfl rfl ?_
      refine AO.callW (wantedN rfl) [2] [0] [0] rfl rfl Try.call74 rfl (sortS_fn (ss := namesOf [base, a, b].flatten) ⟨Try.slices_Sort_string, Try.slices_Sort_string_none⟩ hS1) (.own rfl) rfl (fun _ => rfl) ⟨rfl, trivial⟩ rfl (fun _ => rfl) (fun _ => rfl) (fun _ _ => ?_)
      refine AO.nil ?_
      refine AC.seq ?_
      refine AC.region ?_
      refine AO.yld _ (Yld.assign rfl) rfl rfl rfl ?_
      refine AO.nil ?_
      refine AC.seq ?_
      refine AC.region ?_
      refine AO.yld _ (Yld.assign rfl) rfl rfl rfl ?_
      refine AO.nil ?_
      refine AC.seq ?_
      refine AC.seq ?_
      refine AC.region ?_
      refine AO.yld _ (Yld.move rfl) rfl rfl rfl ?_
      refine AO.callW (wantedN rfl) [2] [0] [0] rfl rfl Try.call75 rfl (compactS_fn (ss := sortL (namesOf [base, a, b].flatten)) ⟨Try.slices_Compact_string, Try.slices_Compact_string_empty⟩ hS (compact_le2 _) (by rfl)) (.own rfl) rfl (fun _ => rfl) ⟨rfl, trivial⟩ rfl (fun _ => rfl) (fun _ => rfl) (fun _ _ => ?_)
      rw [show Lib.compact (sortL (namesOf [base, a, b].flatten)) = names3 base a b from by simp [names3]]
      refine AO.freeze 2 rfl ?_
      refine AO.yld _ (Yld.len Try.underlying42 rfl rfl) rfl rfl rfl ?_
      refine AO.yld _ (Yld.move rfl) rfl rfl rfl ?_
      refine AO.nil ?_
      refine AC.block ?_
      refine AC.nilVec 11 3 9 1 rfl rfl ?_
      refine AC.nilVec 12 4 62 2 rfl rfl ?_
      refine AC.loopC [(0, _), (1, _), (2, _), (6, _), (7, _), (37, _), (38, _)] [(0, _), (900, _)] (fun (k : Nat) => [(39, .p (.v (.int .i64 (k : Int)))), (11, .h 3), (12, .h 4)]) (fun (k : Nat) => [(3, .vec 9 1 ((conflTo base a b k).map Go.V.encS)), (4, .vec 62 2 ((mergeTo base a b k).map encNV))]) (fun (k : Nat) => k ≤ (names3 base a b).length) (fun (k : Nat) => (names3 base a b).length - k) 0 ⟨rfl, rfl, rfl, rfl, rfl, rfl, rfl, trivial⟩ ⟨rfl, rfl, trivial⟩ ⟨rfl, rfl, rfl, trivial⟩ ⟨rfl, rfl, trivial⟩ ?_ (fun k hJ => ?_)
      · exact Nat.zero_le _
      · -- round
        refine AC.seq ?_
        refine AC.region ?_
        refine AO.yld _ (Yld.int rfl rfl rfl) rfl rfl rfl ?_
        refine AO.nil ?_
        refine AC.seq ?_
        refine AC.cond _ rfl (fun c40 => ?_) (fun c40 => ?_)
        · -- c40 True
          have hk := lt_of_decM c40
          obtain ⟨n, hx9⟩ := get_some hk
          have hrow := map_row (enc := Go.V.encS) hx9
          have hcl := conflTo_len (base := base) (a := a) (b := b) (k := k)
          have hml := mergeTo_len (base := base) (a := a) (b := b) (k := k)
          refine AC.skip ?_
          refine AC.seq ?_
          refine AC.block ?_
          refine AC.seq ?_
          refine AC.region ?_
          refine AO.yld _ (Yld.indexSl Try.underlying42 Try.sizeOf9 rfl rfl hrow rfl) rfl rfl rfl ?_
          refine AO.yld _ (Yld.load Try.isAgg9 rfl rfl) rfl rfl rfl ?_
          refine AO.yld _ (Yld.assign rfl) rfl rfl rfl ?_
          refine AO.nil ?_
          refine AC.seq ?_
          refine AC.region ?_
          refine AO.yld _ (Yld.move rfl) rfl rfl rfl ?_
          refine AO.yld _ (Yld.move rfl) rfl rfl rfl ?_
          refine AO.yld _ (Yld.call rfl rfl Try.call76 rfl rfl rfl (impl_valueIn_c (by omega)) rfl) rfl rfl rfl ?_
          refine AO.yld _ (Yld.move rfl) rfl rfl rfl ?_
          refine AO.yld _ (Yld.move rfl) rfl rfl rfl ?_
          refine AO.yld _ (Yld.call rfl rfl Try.call76 rfl rfl rfl (impl_valueIn_c (by omega)) rfl) rfl rfl rfl ?_
          refine AO.yld _ (Yld.move rfl) rfl rfl rfl ?_
          refine AO.yld _ (Yld.move rfl) rfl rfl rfl ?_
          refine AO.yld _ (Yld.call rfl rfl Try.call76 rfl rfl rfl (impl_valueIn_c (by omega)) rfl) rfl rfl rfl ?_
          refine AO.yld _ (Yld.assign rfl) rfl rfl rfl ?_
          refine AO.yld _ (Yld.assign rfl) rfl rfl rfl ?_
          refine AO.yld _ (Yld.assign rfl) rfl rfl rfl ?_
          refine AO.nil ?_
          refine AC.seq ?_
          refine AC.seq ?_
          refine AC.region ?_
          refine AO.yld _ (Yld.move rfl) rfl rfl rfl ?_
          refine AO.yld _ (Yld.move rfl) rfl rfl rfl ?_
          refine AO.yld _ (Yld.int rfl rfl rfl) rfl rfl rfl ?_
          refine AO.yld _ (Yld.move rfl) rfl rfl rfl ?_
          refine AO.splitAt 55 _ rfl (fun s55 => ?_) (fun s55 => ?_)
          · -- s55 True
            refine AO.yldG _ (Yld.move rfl) rfl rfl rfl rfl rfl ?_
            refine AO.yldG _ (Yld.move rfl) rfl rfl rfl rfl rfl ?_
            refine AO.yldG _ (Yld.int rfl rfl rfl) rfl rfl rfl rfl rfl ?_
            refine AO.yld _ (Yld.pickT rfl rfl) rfl rfl rfl ?_
            refine AO.yld _ (Yld.move rfl) rfl rfl rfl ?_
            refine AO.splitAt 60 _ rfl (fun s60 => ?_) (fun s60 => ?_)
            · -- s60 True
              refine AO.yldG _ (Yld.move rfl) rfl rfl rfl rfl rfl ?_
              refine AO.yldG _ (Yld.move rfl) rfl rfl rfl rfl rfl ?_
              refine AO.yldG _ (Yld.int rfl rfl rfl) rfl rfl rfl rfl rfl ?_
              refine AO.yld _ (Yld.pickT rfl rfl) rfl rfl rfl ?_
              refine AO.nil ?_
              refine AC.cond _ rfl (fun c64 => ?_) (fun c64 => ?_)
              · -- c64 True
                have h1 : ¬ vIn a n = vIn b n := by simpa using s55
                have h2 : ¬ vIn a n = vIn base n := by simpa using s60
                have h3 : ¬ vIn b n = vIn base n := by simpa using c64
                have hcf : confB base a b n = true := by unfold confB; simp [h1, h2, h3]
                refine AC.region ?_
                refine AO.yld _ (Yld.move rfl) rfl rfl rfl ?_
                refine AO.yld _ (Yld.move rfl) rfl rfl rfl ?_
                refine AO.buildSlice (rows := [[_]]) 5 Try.underlying42 ty9 rfl rfl rfl rfl rfl rfl rfl rfl rfl ?_
                refine AO.append 3 Try.underlying42 ty9 rfl rfl rfl rfl rfl rfl rfl (by simp [pvOne, str]) (by simp only [List.length_map, List.length_cons, List.length_nil]; omega) (by simp only [List.length_map, List.length_cons, List.length_nil]; omega) rfl ?_
                refine AO.yld _ (Yld.assign rfl) rfl rfl rfl ?_
                refine AO.nil ?_
                refine AC.seq ?_
                refine AC.seq ?_
                refine AC.region ?_
                refine AO.yld _ (Yld.move rfl) rfl rfl rfl ?_
                refine AO.yld _ (Yld.move rfl) rfl rfl rfl ?_
                refine AO.yld _ (Yld.int rfl rfl rfl) rfl rfl rfl ?_
                refine AO.nil ?_
                refine AC.cond _ rfl (fun c71 => ?_) (fun c71 => ?_)
                · -- c71 True
                  have hmv : mergeV base a b n = vIn b n := if_pos (by simpa using c71)
                  refine AC.region ?_
                  refine AO.yld _ (Yld.move rfl) rfl rfl rfl ?_
                  refine AO.yld _ (Yld.assign rfl) rfl rfl rfl ?_
                  refine AO.nil ?_
                  refine AC.seq ?_
                  refine AC.region ?_
                  refine AO.yld _ (Yld.move rfl) rfl rfl rfl ?_
                  refine AO.yld _ (Yld.int rfl rfl rfl) rfl rfl rfl ?_
                  refine AO.nil ?_
                  refine AC.cond _ rfl (fun c74 => ?_) (fun c74 => ?_)
                  · -- c74 True
                    have h0 : 0 ≤ mergeV base a b n := by rw [hmv]; simpa using c74
                    refine AC.region ?_
                    refine AO.yld _ (Yld.move rfl) rfl rfl rfl ?_
                    refine AO.yld _ (Yld.move rfl) rfl rfl rfl ?_
                    refine AO.yld _ (Yld.move rfl) rfl rfl rfl ?_
                    refine AO.yld _ (Yld.buildA (zs := [.v (str []), .v (.int .i64 0)]) bld62 rfl rfl) rfl rfl rfl ?_
                    refine AO.buildSlice (rows := [[_, _]]) 6 Try.underlying26 ty62 rfl rfl rfl rfl rfl rfl rfl rfl rfl ?_
                    refine AO.append 4 Try.underlying26 ty62 rfl rfl rfl rfl rfl rfl rfl (by simp [pvOne, str]) (by simp only [List.length_map, List.length_cons, List.length_nil]; omega) (by simp only [List.length_map, List.length_cons, List.length_nil]; omega) rfl ?_
                    refine AO.yld _ (Yld.assign rfl) rfl rfl rfl ?_
                    refine AO.nil ?_
                    refine AC.mark ?_
                    refine AC.region ?_
                    refine AO.yld _ (Yld.add rfl rfl (by omega) (by omega)) rfl rfl rfl ?_
                    refine AO.yld _ (Yld.move rfl) rfl rfl rfl ?_
                    refine AO.nil ?_
                    refine AC.back ⟨k + 1, ?_, ?_, ⟨?_, ?_, ?_, trivial⟩, ⟨?_, ?_, trivial⟩, ⟨rfl, rfl, rfl, rfl, rfl, rfl, rfl, trivial⟩, ⟨rfl, rfl, trivial⟩⟩
                    · exact hk
                    · omega
                    · rfl
                    · rfl
                    · rfl
                    · first | (rw [← confl_yes hx9 hcf]; rfl) | (rw [confl_no hx9 hcf]; rfl)
                    · first | (rw [← merge_yes hx9 hmv (by rw [← hmv]; exact h0)]; rfl) | (rw [merge_no hx9 h0]; rfl)
                  · -- c74 False
                    have h0 : ¬ 0 ≤ mergeV base a b n := by rw [hmv]; have h := c74; simpa using h
                    refine AC.skip ?_
                    refine AC.mark ?_
                    refine AC.region ?_
                    refine AO.yld _ (Yld.add rfl rfl (by omega) (by omega)) rfl rfl rfl ?_
                    refine AO.yld _ (Yld.move rfl) rfl rfl rfl ?_
                    refine AO.nil ?_
                    refine AC.back ⟨k + 1, ?_, ?_, ⟨?_, ?_, ?_, trivial⟩, ⟨?_, ?_, trivial⟩, ⟨rfl, rfl, rfl, rfl, rfl, rfl, rfl, trivial⟩, ⟨rfl, rfl, trivial⟩⟩
                    · exact hk
                    · omega
                    · rfl
                    · rfl
                    · rfl
                    · first | (rw [← confl_yes hx9 hcf]; rfl) | (rw [confl_no hx9 hcf]; rfl)
                    · first | (rw [← merge_yes hx9 hmv (by rw [← hmv]; exact h0)]; rfl) | (rw [merge_no hx9 h0]; rfl)
                · -- c71 False
                  have hmv : mergeV base a b n = vIn a n := if_neg (by simpa using c71)
                  refine AC.skip ?_
                  refine AC.seq ?_
                  refine AC.region ?_
                  refine AO.yld _ (Yld.move rfl) rfl rfl rfl ?_
                  refine AO.yld _ (Yld.int rfl rfl rfl) rfl rfl rfl ?_
                  refine AO.nil ?_
                  refine AC.cond _ rfl (fun c74 => ?_) (fun c74 => ?_)
                  · -- c74 True
                    have h0 : 0 ≤ mergeV base a b n := by rw [hmv]; simpa using c74
                    refine AC.region ?_
                    refine AO.yld _ (Yld.move rfl) rfl rfl rfl ?_
                    refine AO.yld _ (Yld.move rfl) rfl rfl rfl ?_
                    refine AO.yld _ (Yld.move rfl) rfl rfl rfl ?_
                    refine AO.yld _ (Yld.buildA (zs := [.v (str []), .v (.int .i64 0)]) bld62 rfl rfl) rfl rfl rfl ?_
                    refine AO.buildSlice (rows := [[_, _]]) 6 Try.underlying26 ty62 rfl rfl rfl rfl rfl rfl rfl rfl rfl ?_
                    refine AO.append 4 Try.underlying26 ty62 rfl rfl rfl rfl rfl rfl rfl (by simp [pvOne, str]) (by simp only [List.length_map, List.length_cons, List.length_nil]; omega) (by simp only [List.length_map, List.length_cons, List.length_nil]; omega) rfl ?_
                    refine AO.yld _ (Yld.assign rfl) rfl rfl rfl ?_
                    refine AO.nil ?_
                    refine AC.mark ?_
                    refine AC.region ?_
                    refine AO.yld _ (Yld.add rfl rfl (by omega) (by omega)) rfl rfl rfl ?_
                    refine AO.yld _ (Yld.move rfl) rfl rfl rfl ?_
                    refine AO.nil ?_
                    refine AC.back ⟨k + 1, ?_, ?_, ⟨?_, ?_, ?_, trivial⟩, ⟨?_, ?_, trivial⟩, ⟨rfl, rfl, rfl, rfl, rfl, rfl, rfl, trivial⟩, ⟨rfl, rfl, trivial⟩⟩
                    · exact hk
                    · omega
                    · rfl
                    · rfl
                    · rfl
                    · first | (rw [← confl_yes hx9 hcf]; rfl) | (rw [confl_no hx9 hcf]; rfl)
                    · first | (rw [← merge_yes hx9 hmv (by rw [← hmv]; exact h0)]; rfl) | (rw [merge_no hx9 h0]; rfl)
                  · -- c74 False
                    have h0 : ¬ 0 ≤ mergeV base a b n := by rw [hmv]; have h := c74; simpa using h
                    refine AC.skip ?_
                    refine AC.mark ?_
                    refine AC.region ?_
                    refine AO.yld _ (Yld.add rfl rfl (by omega) (by omega)) rfl rfl rfl ?_
                    refine AO.yld _ (Yld.move rfl) rfl rfl rfl ?_
                    refine AO.nil ?_
                    refine AC.back ⟨k + 1, ?_, ?_, ⟨?_, ?_, ?_, trivial⟩, ⟨?_, ?_, trivial⟩, ⟨rfl, rfl, rfl, rfl, rfl, rfl, rfl, trivial⟩, ⟨rfl, rfl, trivial⟩⟩
                    · exact hk
                    · omega
                    · rfl
                    · rfl
                    · rfl
                    · first | (rw [← confl_yes hx9 hcf]; rfl) | (rw [confl_no hx9 hcf]; rfl)
                    · first | (rw [← merge_yes hx9 hmv (by rw [← hmv]; exact h0)]; rfl) | (rw [merge_no hx9 h0]; rfl)
              · -- c64 False
                have h3 : vIn b n = vIn base n := by simpa using c64
                have hcf : confB base a b n = false := by unfold confB; simp [h3]
                refine AC.skip ?_
                refine AC.seq ?_
                refine AC.seq ?_
                refine AC.region ?_
                refine AO.yld _ (Yld.move rfl) rfl rfl rfl ?_
                refine AO.yld _ (Yld.move rfl) rfl rfl rfl ?_
                refine AO.yld _ (Yld.int rfl rfl rfl) rfl rfl rfl ?_
                refine AO.nil ?_
                refine AC.cond _ rfl (fun c71 => ?_) (fun c71 => ?_)
                · -- c71 True
                  have hmv : mergeV base a b n = vIn b n := if_pos (by simpa using c71)
                  refine AC.region ?_
                  refine AO.yld _ (Yld.move rfl) rfl rfl rfl ?_
                  refine AO.yld _ (Yld.assign rfl) rfl rfl rfl ?_
                  refine AO.nil ?_
                  refine AC.seq ?_
                  refine AC.region ?_
                  refine AO.yld _ (Yld.move rfl) rfl rfl rfl ?_
                  refine AO.yld _ (Yld.int rfl rfl rfl) rfl rfl rfl ?_
                  refine AO.nil ?_
                  refine AC.cond _ rfl (fun c74 => ?_) (fun c74 => ?_)
                  · -- c74 True
                    have h0 : 0 ≤ mergeV base a b n := by rw [hmv]; simpa using c74
                    refine AC.region ?_
                    refine AO.yld _ (Yld.move rfl) rfl rfl rfl ?_
                    refine AO.yld _ (Yld.move rfl) rfl rfl rfl ?_
                    refine AO.yld _ (Yld.move rfl) rfl rfl rfl ?_
                    refine AO.yld _ (Yld.buildA (zs := [.v (str []), .v (.int .i64 0)]) bld62 rfl rfl) rfl rfl rfl ?_
                    refine AO.buildSlice (rows := [[_, _]]) 5 Try.underlying26 ty62 rfl rfl rfl rfl rfl rfl rfl rfl rfl ?_
                    refine AO.append 4 Try.underlying26 ty62 rfl rfl rfl rfl rfl rfl rfl (by simp [pvOne, str]) (by simp only [List.length_map, List.length_cons, List.length_nil]; omega) (by simp only [List.length_map, List.length_cons, List.length_nil]; omega) rfl ?_
                    refine AO.yld _ (Yld.assign rfl) rfl rfl rfl ?_
                    refine AO.nil ?_
                    refine AC.mark ?_
                    refine AC.region ?_
                    refine AO.yld _ (Yld.add rfl rfl (by omega) (by omega)) rfl rfl rfl ?_
                    refine AO.yld _ (Yld.move rfl) rfl rfl rfl ?_
                    refine AO.nil ?_
                    refine AC.back ⟨k + 1, ?_, ?_, ⟨?_, ?_, ?_, trivial⟩, ⟨?_, ?_, trivial⟩, ⟨rfl, rfl, rfl, rfl, rfl, rfl, rfl, trivial⟩, ⟨rfl, rfl, trivial⟩⟩
                    · exact hk
                    · omega
                    · rfl
                    · rfl
                    · rfl
                    · first | (rw [← confl_yes hx9 hcf]; rfl) | (rw [confl_no hx9 hcf]; rfl)
                    · first | (rw [← merge_yes hx9 hmv (by rw [← hmv]; exact h0)]; rfl) | (rw [merge_no hx9 h0]; rfl)
                  · -- c74 False
                    have h0 : ¬ 0 ≤ mergeV base a b n := by rw [hmv]; have h := c74; simpa using h
                    refine AC.skip ?_
                    refine AC.mark ?_
                    refine AC.region ?_
                    refine AO.yld _ (Yld.add rfl rfl (by omega) (by omega)) rfl rfl rfl ?_
                    refine AO.yld _ (Yld.move rfl) rfl rfl rfl ?_
                    refine AO.nil ?_
                    refine AC.back ⟨k + 1, ?_, ?_, ⟨?_, ?_, ?_, trivial⟩, ⟨?_, ?_, trivial⟩, ⟨rfl, rfl, rfl, rfl, rfl, rfl, rfl, trivial⟩, ⟨rfl, rfl, trivial⟩⟩
                    · exact hk
                    · omega
                    · rfl
                    · rfl
                    · rfl
                    · first | (rw [← confl_yes hx9 hcf]; rfl) | (rw [confl_no hx9 hcf]; rfl)
                    · first | (rw [← merge_yes hx9 hmv (by rw [← hmv]; exact h0)]; rfl) | (rw [merge_no hx9 h0]; rfl)
                · -- c71 False
                  have hmv : mergeV base a b n = vIn a n := if_neg (by simpa using c71)
                  refine AC.skip ?_
                  refine AC.seq ?_
                  refine AC.region ?_
                  refine AO.yld _ (Yld.move rfl) rfl rfl rfl ?_
                  refine AO.yld _ (Yld.int rfl rfl rfl) rfl rfl rfl ?_
                  refine AO.nil ?_
                  refine AC.cond _ rfl (fun c74 => ?_) (fun c74 => ?_)
                  · -- c74 True
                    have h0 : 0 ≤ mergeV base a b n := by rw [hmv]; simpa using c74
                    refine AC.region ?_
                    refine AO.yld _ (Yld.move rfl) rfl rfl rfl ?_
                    refine AO.yld _ (Yld.move rfl) rfl rfl rfl ?_
                    refine AO.yld _ (Yld.move rfl) rfl rfl rfl ?_
                    refine AO.yld _ (Yld.buildA (zs := [.v (str []), .v (.int .i64 0)]) bld62 rfl rfl) rfl rfl rfl ?_
                    refine AO.buildSlice (rows := [[_, _]]) 5 Try.underlying26 ty62 rfl rfl rfl rfl rfl rfl rfl rfl rfl ?_
                    refine AO.append 4 Try.underlying26 ty62 rfl rfl rfl rfl rfl rfl rfl (by simp [pvOne, str]) (by simp only [List.length_map, List.length_cons, List.length_nil]; omega) (by simp only [List.length_map, List.length_cons, List.length_nil]; omega) rfl ?_
                    refine AO.yld _ (Yld.assign rfl) rfl rfl rfl ?_
                    refine AO.nil ?_
                    refine AC.mark ?_
                    refine AC.region ?_
                    refine AO.yld _ (Yld.add rfl rfl (by omega) (by omega)) rfl rfl rfl ?_
                    refine AO.yld _ (Yld.move rfl) rfl rfl rfl ?_
                    refine AO.nil ?_
                    refine AC.back ⟨k + 1, ?_, ?_, ⟨?_, ?_, ?_, trivial⟩, ⟨?_, ?_, trivial⟩, ⟨rfl, rfl, rfl, rfl, rfl, rfl, rfl, trivial⟩, ⟨rfl, rfl, trivial⟩⟩
                    · exact hk
                    · omega
                    · rfl
                    · rfl
                    · rfl
                    · first | (rw [← confl_yes hx9 hcf]; rfl) | (rw [confl_no hx9 hcf]; rfl)
                    · first | (rw [← merge_yes hx9 hmv (by rw [← hmv]; exact h0)]; rfl) | (rw [merge_no hx9 h0]; rfl)
                  · -- c74 False
                    have h0 : ¬ 0 ≤ mergeV base a b n := by rw [hmv]; have h := c74; simpa using h
                    refine AC.skip ?_
                    refine AC.mark ?_
                    refine AC.region ?_
                    refine AO.yld _ (Yld.add rfl rfl (by omega) (by omega)) rfl rfl rfl ?_
                    refine AO.yld _ (Yld.move rfl) rfl rfl rfl ?_
                    refine AO.nil ?_
                    refine AC.back ⟨k + 1, ?_, ?_, ⟨?_, ?_, ?_, trivial⟩, ⟨?_, ?_, trivial⟩, ⟨rfl, rfl, rfl, rfl, rfl, rfl, rfl, trivial⟩, ⟨rfl, rfl, trivial⟩⟩
                    · exact hk
                    · omega
                    · rfl
                    · rfl
                    · rfl
                    · first | (rw [← confl_yes hx9 hcf]; rfl) | (rw [confl_no hx9 hcf]; rfl)
                    · first | (rw [← merge_yes hx9 hmv (by rw [← hmv]; exact h0)]; rfl) | (rw [merge_no hx9 h0]; rfl)
            · -- s60 False
              have h2 : vIn a n = vIn base n := by simpa using s60
              have hcf : confB base a b n = false := by unfold confB; simp [h2]
              refine AO.skipT rfl rfl rfl rfl rfl ?_
              refine AO.skipT rfl rfl rfl rfl rfl ?_
              refine AO.skipT rfl rfl rfl rfl rfl ?_
              refine AO.yld _ (Yld.pickF rfl rfl) rfl rfl rfl ?_
              refine AO.nil ?_
              refine AC.condF rfl ?_
              refine AC.skip ?_
              refine AC.seq ?_
              refine AC.seq ?_
              refine AC.region ?_
              refine AO.yld _ (Yld.move rfl) rfl rfl rfl ?_
              refine AO.yld _ (Yld.move rfl) rfl rfl rfl ?_
              refine AO.yld _ (Yld.int rfl rfl rfl) rfl rfl rfl ?_
              refine AO.nil ?_
              refine AC.cond _ rfl (fun c71 => ?_) (fun c71 => ?_)
              · -- c71 True
                have hmv : mergeV base a b n = vIn b n := if_pos (by simpa using c71)
                refine AC.region ?_
                refine AO.yld _ (Yld.move rfl) rfl rfl rfl ?_
                refine AO.yld _ (Yld.assign rfl) rfl rfl rfl ?_
                refine AO.nil ?_
                refine AC.seq ?_
                refine AC.region ?_
                refine AO.yld _ (Yld.move rfl) rfl rfl rfl ?_
                refine AO.yld _ (Yld.int rfl rfl rfl) rfl rfl rfl ?_
                refine AO.nil ?_
                refine AC.cond _ rfl (fun c74 => ?_) (fun c74 => ?_)
                · -- c74 True
                  have h0 : 0 ≤ mergeV base a b n := by rw [hmv]; simpa using c74
                  refine AC.region ?_
                  refine AO.yld _ (Yld.move rfl) rfl rfl rfl ?_
                  refine AO.yld _ (Yld.move rfl) rfl rfl rfl ?_
                  refine AO.yld _ (Yld.move rfl) rfl rfl rfl ?_
                  refine AO.yld _ (Yld.buildA (zs := [.v (str []), .v (.int .i64 0)]) bld62 rfl rfl) rfl rfl rfl ?_
                  refine AO.buildSlice (rows := [[_, _]]) 5 Try.underlying26 ty62 rfl rfl rfl rfl rfl rfl rfl rfl rfl ?_
                  refine AO.append 4 Try.underlying26 ty62 rfl rfl rfl rfl rfl rfl rfl (by simp [pvOne, str]) (by simp only [List.length_map, List.length_cons, List.length_nil]; omega) (by simp only [List.length_map, List.length_cons, List.length_nil]; omega) rfl ?_
                  refine AO.yld _ (Yld.assign rfl) rfl rfl rfl ?_
                  refine AO.nil ?_
                  refine AC.mark ?_
                  refine AC.region ?_
                  refine AO.yld _ (Yld.add rfl rfl (by omega) (by omega)) rfl rfl rfl ?_
                  refine AO.yld _ (Yld.move rfl) rfl rfl rfl ?_
                  refine AO.nil ?_
                  refine AC.back ⟨k + 1, ?_, ?_, ⟨?_, ?_, ?_, trivial⟩, ⟨?_, ?_, trivial⟩, ⟨rfl, rfl, rfl, rfl, rfl, rfl, rfl, trivial⟩, ⟨rfl, rfl, trivial⟩⟩
                  · exact hk
                  · omega
                  · rfl
                  · rfl
                  · rfl
                  · first | (rw [← confl_yes hx9 hcf]; rfl) | (rw [confl_no hx9 hcf]; rfl)
                  · first | (rw [← merge_yes hx9 hmv (by rw [← hmv]; exact h0)]; rfl) | (rw [merge_no hx9 h0]; rfl)
                · -- c74 False
                  have h0 : ¬ 0 ≤ mergeV base a b n := by rw [hmv]; have h := c74; simpa using h
                  refine AC.skip ?_
                  refine AC.mark ?_
                  refine AC.region ?_
                  refine AO.yld _ (Yld.add rfl rfl (by omega) (by omega)) rfl rfl rfl ?_
                  refine AO.yld _ (Yld.move rfl) rfl rfl rfl ?_
                  refine AO.nil ?_
                  refine AC.back ⟨k + 1, ?_, ?_, ⟨?_, ?_, ?_, trivial⟩, ⟨?_, ?_, trivial⟩, ⟨rfl, rfl, rfl, rfl, rfl, rfl, rfl, trivial⟩, ⟨rfl, rfl, trivial⟩⟩
                  · exact hk
                  · omega
                  · rfl
                  · rfl
                  · rfl
                  · first | (rw [← confl_yes hx9 hcf]; rfl) | (rw [confl_no hx9 hcf]; rfl)
                  · first | (rw [← merge_yes hx9 hmv (by rw [← hmv]; exact h0)]; rfl) | (rw [merge_no hx9 h0]; rfl)
              · -- c71 False
                have hmv : mergeV base a b n = vIn a n := if_neg (by simpa using c71)
                refine AC.skip ?_
                refine AC.seq ?_
                refine AC.region ?_
                refine AO.yld _ (Yld.move rfl) rfl rfl rfl ?_
                refine AO.yld _ (Yld.int rfl rfl rfl) rfl rfl rfl ?_
                refine AO.nil ?_
                refine AC.cond _ rfl (fun c74 => ?_) (fun c74 => ?_)
                · -- c74 True
                  have h0 : 0 ≤ mergeV base a b n := by rw [hmv]; simpa using c74
                  refine AC.region ?_
                  refine AO.yld _ (Yld.move rfl) rfl rfl rfl ?_
                  refine AO.yld _ (Yld.move rfl) rfl rfl rfl ?_
                  refine AO.yld _ (Yld.move rfl) rfl rfl rfl ?_
                  refine AO.yld _ (Yld.buildA (zs := [.v (str []), .v (.int .i64 0)]) bld62 rfl rfl) rfl rfl rfl ?_
                  refine AO.buildSlice (rows := [[_, _]]) 5 Try.underlying26 ty62 rfl rfl rfl rfl rfl rfl rfl rfl rfl ?_
                  refine AO.append 4 Try.underlying26 ty62 rfl rfl rfl rfl rfl rfl rfl (by simp [pvOne, str]) (by simp only [List.length_map, List.length_cons, List.length_nil]; omega) (by simp only [List.length_map, List.length_cons, List.length_nil]; omega) rfl ?_
                  refine AO.yld _ (Yld.assign rfl) rfl rfl rfl ?_
                  refine AO.nil ?_
                  refine AC.mark ?_
                  refine AC.region ?_
                  refine AO.yld _ (Yld.add rfl rfl (by omega) (by omega)) rfl rfl rfl ?_
                  refine AO.yld _ (Yld.move rfl) rfl rfl rfl ?_
                  refine AO.nil ?_
                  refine AC.back ⟨k + 1, ?_, ?_, ⟨?_, ?_, ?_, trivial⟩, ⟨?_, ?_, trivial⟩, ⟨rfl, rfl, rfl, rfl, rfl, rfl, rfl, trivial⟩, ⟨rfl, rfl, trivial⟩⟩
                  · exact hk
                  · omega
                  · rfl
                  · rfl
                  · rfl
                  · first | (rw [← confl_yes hx9 hcf]; rfl) | (rw [confl_no hx9 hcf]; rfl)
                  · first | (rw [← merge_yes hx9 hmv (by rw [← hmv]; exact h0)]; rfl) | (rw [merge_no hx9 h0]; rfl)
                · -- c74 False
                  have h0 : ¬ 0 ≤ mergeV base a b n := by rw [hmv]; have h := c74; simpa using h
                  refine AC.skip ?_
                  refine AC.mark ?_
                  refine AC.region ?_
                  refine AO.yld _ (Yld.add rfl rfl (by omega) (by omega)) rfl rfl rfl ?_
                  refine AO.yld _ (Yld.move rfl) rfl rfl rfl ?_
                  refine AO.nil ?_
                  refine AC.back ⟨k + 1, ?_, ?_, ⟨?_, ?_, ?_, trivial⟩, ⟨?_, ?_, trivial⟩, ⟨rfl, rfl, rfl, rfl, rfl, rfl, rfl, trivial⟩, ⟨rfl, rfl, trivial⟩⟩
                  · exact hk
                  · omega
                  · rfl
                  · rfl
                  · rfl
                  · first | (rw [← confl_yes hx9 hcf]; rfl) | (rw [confl_no hx9 hcf]; rfl)
                  · first | (rw [← merge_yes hx9 hmv (by rw [← hmv]; exact h0)]; rfl) | (rw [merge_no hx9 h0]; rfl)
          · -- s55 False
            have h1 : vIn a n = vIn b n := by simpa using s55
            have hcf : confB base a b n = false := by unfold confB; simp [h1]
            refine AO.skipT rfl rfl rfl rfl rfl ?_
            refine AO.skipT rfl rfl rfl rfl rfl ?_
            refine AO.skipT rfl rfl rfl rfl rfl ?_
            refine AO.yld _ (Yld.pickF rfl rfl) rfl rfl rfl ?_
            refine AO.yld _ (Yld.move rfl) rfl rfl rfl ?_
            refine AO.skipT rfl rfl rfl rfl rfl ?_
            refine AO.skipT rfl rfl rfl rfl rfl ?_
            refine AO.skipT rfl rfl rfl rfl rfl ?_
            refine AO.yld _ (Yld.pickF rfl rfl) rfl rfl rfl ?_
            refine AO.nil ?_
            refine AC.condF rfl ?_
            refine AC.skip ?_
            refine AC.seq ?_
            refine AC.seq ?_
            refine AC.region ?_
            refine AO.yld _ (Yld.move rfl) rfl rfl rfl ?_
            refine AO.yld _ (Yld.move rfl) rfl rfl rfl ?_
            refine AO.yld _ (Yld.int rfl rfl rfl) rfl rfl rfl ?_
            refine AO.nil ?_
            refine AC.cond _ rfl (fun c71 => ?_) (fun c71 => ?_)
            · -- c71 True
              have hmv : mergeV base a b n = vIn b n := if_pos (by simpa using c71)
              refine AC.region ?_
              refine AO.yld _ (Yld.move rfl) rfl rfl rfl ?_
              refine AO.yld _ (Yld.assign rfl) rfl rfl rfl ?_
              refine AO.nil ?_
              refine AC.seq ?_
              refine AC.region ?_
              refine AO.yld _ (Yld.move rfl) rfl rfl rfl ?_
              refine AO.yld _ (Yld.int rfl rfl rfl) rfl rfl rfl ?_
              refine AO.nil ?_
              refine AC.cond _ rfl (fun c74 => ?_) (fun c74 => ?_)
              · -- c74 True
                have h0 : 0 ≤ mergeV base a b n := by rw [hmv]; simpa using c74
                refine AC.region ?_
                refine AO.yld _ (Yld.move rfl) rfl rfl rfl ?_
                refine AO.yld _ (Yld.move rfl) rfl rfl rfl ?_
                refine AO.yld _ (Yld.move rfl) rfl rfl rfl ?_
                refine AO.yld _ (Yld.buildA (zs := [.v (str []), .v (.int .i64 0)]) bld62 rfl rfl) rfl rfl rfl ?_
                refine AO.buildSlice (rows := [[_, _]]) 5 Try.underlying26 ty62 rfl rfl rfl rfl rfl rfl rfl rfl rfl ?_
                refine AO.append 4 Try.underlying26 ty62 rfl rfl rfl rfl rfl rfl rfl (by simp [pvOne, str]) (by simp only [List.length_map, List.length_cons, List.length_nil]; omega) (by simp only [List.length_map, List.length_cons, List.length_nil]; omega) rfl ?_
                refine AO.yld _ (Yld.assign rfl) rfl rfl rfl ?_
                refine AO.nil ?_
                refine AC.mark ?_
                refine AC.region ?_
                refine AO.yld _ (Yld.add rfl rfl (by omega) (by omega)) rfl rfl rfl ?_
                refine AO.yld _ (Yld.move rfl) rfl rfl rfl ?_
                refine AO.nil ?_
                refine AC.back ⟨k + 1, ?_, ?_, ⟨?_, ?_, ?_, trivial⟩, ⟨?_, ?_, trivial⟩, ⟨rfl, rfl, rfl, rfl, rfl, rfl, rfl, trivial⟩, ⟨rfl, rfl, trivial⟩⟩
                · exact hk
                · omega
                · rfl
                · rfl
                · rfl
                · first | (rw [← confl_yes hx9 hcf]; rfl) | (rw [confl_no hx9 hcf]; rfl)
                · first | (rw [← merge_yes hx9 hmv (by rw [← hmv]; exact h0)]; rfl) | (rw [merge_no hx9 h0]; rfl)
              · -- c74 False
                have h0 : ¬ 0 ≤ mergeV base a b n := by rw [hmv]; have h := c74; simpa using h
                refine AC.skip ?_
                refine AC.mark ?_
                refine AC.region ?_
                refine AO.yld _ (Yld.add rfl rfl (by omega) (by omega)) rfl rfl rfl ?_
                refine AO.yld _ (Yld.move rfl) rfl rfl rfl ?_
                refine AO.nil ?_
                refine AC.back ⟨k + 1, ?_, ?_, ⟨?_, ?_, ?_, trivial⟩, ⟨?_, ?_, trivial⟩, ⟨rfl, rfl, rfl, rfl, rfl, rfl, rfl, trivial⟩, ⟨rfl, rfl, trivial⟩⟩
                · exact hk
                · omega
                · rfl
                · rfl
                · rfl
                · first | (rw [← confl_yes hx9 hcf]; rfl) | (rw [confl_no hx9 hcf]; rfl)
                · first | (rw [← merge_yes hx9 hmv (by rw [← hmv]; exact h0)]; rfl) | (rw [merge_no hx9 h0]; rfl)
            · -- c71 False
              have hmv : mergeV base a b n = vIn a n := if_neg (by simpa using c71)
              refine AC.skip ?_
              refine AC.seq ?_
              refine AC.region ?_
              refine AO.yld _ (Yld.move rfl) rfl rfl rfl ?_
              refine AO.yld _ (Yld.int rfl rfl rfl) rfl rfl rfl ?_
              refine AO.nil ?_
              refine AC.cond _ rfl (fun c74 => ?_) (fun c74 => ?_)
              · -- c74 True
                have h0 : 0 ≤ mergeV base a b n := by rw [hmv]; simpa using c74
                refine AC.region ?_
                refine AO.yld _ (Yld.move rfl) rfl rfl rfl ?_
                refine AO.yld _ (Yld.move rfl) rfl rfl rfl ?_
                refine AO.yld _ (Yld.move rfl) rfl rfl rfl ?_
                refine AO.yld _ (Yld.buildA (zs := [.v (str []), .v (.int .i64 0)]) bld62 rfl rfl) rfl rfl rfl ?_
                refine AO.buildSlice (rows := [[_, _]]) 5 Try.underlying26 ty62 rfl rfl rfl rfl rfl rfl rfl rfl rfl ?_
                refine AO.append 4 Try.underlying26 ty62 rfl rfl rfl rfl rfl rfl rfl (by simp [pvOne, str]) (by simp only [List.length_map, List.length_cons, List.length_nil]; omega) (by simp only [List.length_map, List.length_cons, List.length_nil]; omega) rfl ?_
                refine AO.yld _ (Yld.assign rfl) rfl rfl rfl ?_
                refine AO.nil ?_
                refine AC.mark ?_
                refine AC.region ?_
                refine AO.yld _ (Yld.add rfl rfl (by omega) (by omega)) rfl rfl rfl ?_
                refine AO.yld _ (Yld.move rfl) rfl rfl rfl ?_
                refine AO.nil ?_
                refine AC.back ⟨k + 1, ?_, ?_, ⟨?_, ?_, ?_, trivial⟩, ⟨?_, ?_, trivial⟩, ⟨rfl, rfl, rfl, rfl, rfl, rfl, rfl, trivial⟩, ⟨rfl, rfl, trivial⟩⟩
                · exact hk
                · omega
                · rfl
                · rfl
                · rfl
                · first | (rw [← confl_yes hx9 hcf]; rfl) | (rw [confl_no hx9 hcf]; rfl)
                · first | (rw [← merge_yes hx9 hmv (by rw [← hmv]; exact h0)]; rfl) | (rw [merge_no hx9 h0]; rfl)
              · -- c74 False
                have h0 : ¬ 0 ≤ mergeV base a b n := by rw [hmv]; have h := c74; simpa using h
                refine AC.skip ?_
                refine AC.mark ?_
                refine AC.region ?_
                refine AO.yld _ (Yld.add rfl rfl (by omega) (by omega)) rfl rfl rfl ?_
                refine AO.yld _ (Yld.move rfl) rfl rfl rfl ?_
                refine AO.nil ?_
                refine AC.back ⟨k + 1, ?_, ?_, ⟨?_, ?_, ?_, trivial⟩, ⟨?_, ?_, trivial⟩, ⟨rfl, rfl, rfl, rfl, rfl, rfl, rfl, trivial⟩, ⟨rfl, rfl, trivial⟩⟩
                · exact hk
                · omega
                · rfl
                · rfl
                · rfl
                · first | (rw [← confl_yes hx9 hcf]; rfl) | (rw [confl_no hx9 hcf]; rfl)
                · first | (rw [← merge_yes hx9 hmv (by rw [← hmv]; exact h0)]; rfl) | (rw [merge_no hx9 h0]; rfl)
        · -- c40 False
          obtain rfl : k = (names3 base a b).length := by have := ge_of_decM c40; omega
          refine AC.exit rfl ?_
          refine AC.seq ?_
          refine AC.region ?_
          refine AO.yld _ (Yld.move rfl) rfl rfl rfl ?_
          refine AO.yld _ (Yld.move rfl) rfl rfl rfl ?_
          refine AO.yld _ (Yld.assign rfl) rfl rfl rfl ?_
          refine AO.yld _ (Yld.assign rfl) rfl rfl rfl ?_
          refine AO.nil ?_
          refine FnE.ret () [3, 4] [0, 1] Try.results52 (RVs.cons (RV.tmp rfl) (RVs.cons (RV.tmp rfl) RVs.nil)) rfl rfl rfl ?_ ?_ ⟨⟨_, rfl, ?_⟩, ⟨_, rfl, ?_⟩, trivial⟩
          · -- holds
            trivial
          · -- value
            rfl
          · -- thing 0
            rw [conflTo_end]; rfl
          · -- thing 1
            rw [mergeTo_end]; rfl

theorem impl_ConflictsOf_c {base a b : List NV} (hb : base.length ≤ 1048576) (ha : a.length ≤ 1048576) (hb2 : b.length ≤ 1048576) (hnb : ∀ s ∈ base, s.name.length ≤ 1048576) (hna : ∀ s ∈ a, s.name.length ≤ 1048576) (hnb2 : ∀ s ∈ b, s.name.length ≤ 1048576) :
    FnE (α := Unit) Try.prog 21 [.p (.sl 2 (base.map encNV)), .p (.sl 2 (a.map encNV)), .p (.sl 2 (b.map encNV))] [] [] (fun _ => True) (fun _ => .tup [.h 0, .p (.v (.int .i64 (conflictsOf base a b).2))]) (fun _ => [(0, .vec 9 1 ((conflictsOf base a b).1.map Go.V.encS))]) := by
  refine FnE.intro Try.func21 rfl Try.ntmps21 rfl rfl (fun w0 F0 η φ w => ?_)
  refine AC.seq ?_
  refine AC.region ?_
  refine AO.yld _ (Yld.assign rfl) rfl rfl rfl ?_
  refine AO.yld _ (Yld.assign rfl) rfl rfl rfl ?_
  refine AO.nil ?_
  refine AC.seq ?_
  refine AC.seq ?_
  refine AC.region ?_
  refine AO.yld _ (Yld.move rfl) rfl rfl rfl ?_
  refine AO.yld _ (Yld.call rfl rfl Try.call36 rfl rfl rfl (impl_ValidState_c (by first | assumption | omega) (by assumption)) rfl) rfl rfl rfl ?_
  refine AO.yld _ (Yld.not rfl) rfl rfl rfl ?_
  refine AO.yld _ (Yld.move rfl) rfl rfl rfl ?_
  refine AO.splitAt 13 _ rfl (fun s13 => ?_) (fun s13 => ?_)
  · -- s13 True
    refine AO.skipF rfl rfl rfl rfl rfl ?_
    refine AO.skipF rfl rfl rfl rfl rfl ?_
    refine AO.skipF rfl rfl rfl rfl rfl ?_
    refine AO.yld _ (Yld.pickT rfl rfl) rfl rfl rfl ?_
    refine AO.yld _ (Yld.move rfl) rfl rfl rfl ?_
    refine AO.skipF rfl rfl rfl rfl rfl ?_
    refine AO.skipF rfl rfl rfl rfl rfl ?_
    refine AO.skipF rfl rfl rfl rfl rfl ?_
    refine AO.yld _ (Yld.pickT rfl rfl) rfl rfl rfl ?_
    refine AO.nil ?_
    refine AC.condT rfl ?_
    refine AC.seq ?_
    refine AC.region ?_
    refine AO.yld _ (Yld.assign rfl) rfl rfl rfl ?_
    refine AO.yld _ (Yld.assign rfl) rfl rfl rfl ?_
    refine AO.nil ?_
    refine AC.nilVec 6 0 9 1 rfl rfl ?_
    refine FnE.ret () [0] [0] Try.results21 (RVs.cons (RV.tmp rfl) (RVs.cons (RV.tmp rfl) RVs.nil)) rfl rfl rfl ?_ ?_ ⟨⟨_, rfl, ?_⟩, trivial⟩
    · -- holds
      trivial
    · -- value
      refine tupE ?_; unfold conflictsOf; first | rw [if_pos hok] | rw [if_neg (by clear hnb hna hnb2 hb ha hb2; simp_all)]
    · -- thing 0
      refine vecE ?_; unfold conflictsOf; first | (rw [if_pos hok]; done) | (rw [if_neg (by clear hnb hna hnb2 hb ha hb2; simp_all)]; rfl)
  · -- s13 False
    refine AO.yldG _ (Yld.move rfl) rfl rfl rfl rfl rfl ?_
    refine AO.yldG _ (Yld.call rfl rfl Try.call36 rfl rfl rfl (impl_ValidState_c (by first | assumption | omega) (by assumption)) rfl) rfl rfl rfl rfl rfl ?_
    refine AO.yldG _ (Yld.not rfl) rfl rfl rfl rfl rfl ?_
    refine AO.yld _ (Yld.pickF rfl rfl) rfl rfl rfl ?_
    refine AO.yld _ (Yld.move rfl) rfl rfl rfl ?_
    refine AO.splitAt 18 _ rfl (fun s18 => ?_) (fun s18 => ?_)
    · -- s18 True
      refine AO.skipF rfl rfl rfl rfl rfl ?_
      refine AO.skipF rfl rfl rfl rfl rfl ?_
      refine AO.skipF rfl rfl rfl rfl rfl ?_
      refine AO.yld _ (Yld.pickT rfl rfl) rfl rfl rfl ?_
      refine AO.nil ?_
      refine AC.condT rfl ?_
      refine AC.seq ?_
      refine AC.region ?_
      refine AO.yld _ (Yld.assign rfl) rfl rfl rfl ?_
      refine AO.yld _ (Yld.assign rfl) rfl rfl rfl ?_
      refine AO.nil ?_
      refine AC.nilVec 6 0 9 1 rfl rfl ?_
      refine FnE.ret () [0] [0] Try.results21 (RVs.cons (RV.tmp rfl) (RVs.cons (RV.tmp rfl) RVs.nil)) rfl rfl rfl ?_ ?_ ⟨⟨_, rfl, ?_⟩, trivial⟩
      · -- holds
        trivial
      · -- value
        refine tupE ?_; unfold conflictsOf; first | rw [if_pos hok] | rw [if_neg (by clear hnb hna hnb2 hb ha hb2; simp_all)]
      · -- thing 0
        refine vecE ?_; unfold conflictsOf; first | (rw [if_pos hok]; done) | (rw [if_neg (by clear hnb hna hnb2 hb ha hb2; simp_all)]; rfl)
    · -- s18 False
      refine AO.yldG _ (Yld.move rfl) rfl rfl rfl rfl rfl ?_
      refine AO.yldG _ (Yld.call rfl rfl Try.call36 rfl rfl rfl (impl_ValidState_c (by first | assumption | omega) (by assumption)) rfl) rfl rfl rfl rfl rfl ?_
      refine AO.yldG _ (Yld.not rfl) rfl rfl rfl rfl rfl ?_
      refine AO.yld _ (Yld.pickF rfl rfl) rfl rfl rfl ?_
      refine AO.nil ?_
      refine AC.cond _ rfl (fun c22 => ?_) (fun c22 => ?_)
      · -- c22 True
        refine AC.seq ?_
        refine AC.region ?_
        refine AO.yld _ (Yld.assign rfl) rfl rfl rfl ?_
        refine AO.yld _ (Yld.assign rfl) rfl rfl rfl ?_
        refine AO.nil ?_
        refine AC.nilVec 6 0 9 1 rfl rfl ?_
        refine FnE.ret () [0] [0] Try.results21 (RVs.cons (RV.tmp rfl) (RVs.cons (RV.tmp rfl) RVs.nil)) rfl rfl rfl ?_ ?_ ⟨⟨_, rfl, ?_⟩, trivial⟩
        · -- holds
          trivial
        · -- value
          refine tupE ?_; unfold conflictsOf; first | rw [if_pos hok] | rw [if_neg (by clear hnb hna hnb2 hb ha hb2; simp_all)]
        · -- thing 0
          refine vecE ?_; unfold conflictsOf; first | (rw [if_pos hok]; done) | (rw [if_neg (by clear hnb hna hnb2 hb ha hb2; simp_all)]; rfl)
      · -- c22 False
        have ho1 : okState base = true := by simpa using s13
        have ho2 : okState a = true := by simpa using s18
        have ho3 : okState b = true := by simpa using c22
        have hok : (okState base && okState a && okState b) = true := by rw [ho1, ho2, ho3]; rfl
        have hl1 := state_len ho1; have hl2 := state_len ho2; have hl3 := state_len ho3
        refine AC.skip ?_
        refine AC.seq ?_
        refine AC.region ?_
        refine AO.yld _ (Yld.move rfl) rfl rfl rfl ?_
        refine AO.yld _ (Yld.move rfl) rfl rfl rfl ?_
        refine AO.yld _ (Yld.move rfl) rfl rfl rfl ?_
        refine AO.callW (wantedN rfl) [0, 1] [] [0, 1] rfl rfl Try.call52 rfl (impl_mergeStates_c (by omega) (by omega) (by omega)) (.flat (.view rfl rfl (.view rfl rfl (.view rfl rfl .nil))) (fun _ => by simp [AV.Flat, AV.FlatL, PV.Flat, PV.FlatL]) (fun _ => ⟨flat_map flatS _, flat_map flatNV _, trivial⟩)) rfl (fun _ => rfl) trivial rfl (fun _ => rfl) (fun _ => rfl) (fun _ _ => ?_)
        refine AO.yld _ (Yld.move rfl) rfl rfl rfl ?_
        refine AO.yld _ (Yld.extract rfl rfl rfl) rfl rfl rfl ?_
        refine AO.yld _ (Yld.extract rfl rfl rfl) rfl rfl rfl ?_
        refine AO.yld _ (Yld.assign rfl) rfl rfl rfl ?_
        refine AO.yld _ (Yld.assign rfl) rfl rfl rfl ?_
        refine AO.nil ?_
        refine AC.seq ?_
        refine AC.region ?_
        refine AO.yld _ (Yld.move rfl) rfl rfl rfl ?_
        refine AO.yld _ (Yld.assign rfl) rfl rfl rfl ?_
        refine AO.yld _ (Yld.assign rfl) rfl rfl rfl ?_
        refine AO.nil ?_
        refine FnE.ret () [0] [0] Try.results21 (RVs.cons (RV.tmp rfl) (RVs.cons (RV.tmp rfl) RVs.nil)) rfl rfl rfl ?_ ?_ ⟨⟨_, rfl, ?_⟩, trivial⟩
        · -- holds
          trivial
        · -- value
          refine tupE ?_; unfold conflictsOf; first | rw [if_pos hok] | rw [if_neg (by clear hnb hna hnb2 hb ha hb2; simp_all)]
        · -- thing 0
          refine vecE ?_; unfold conflictsOf; first | (rw [if_pos hok]; done) | (rw [if_neg (by clear hnb hna hnb2 hb ha hb2; simp_all)]; rfl)

theorem impl_MergeStates_c {base a b : List NV} (hb : base.length ≤ 1048576) (ha : a.length ≤ 1048576) (hb2 : b.length ≤ 1048576) (hnb : ∀ s ∈ base, s.name.length ≤ 1048576) (hna : ∀ s ∈ a, s.name.length ≤ 1048576) (hnb2 : ∀ s ∈ b, s.name.length ≤ 1048576) :
    FnE (α := Unit) Try.prog 19 [.p (.sl 2 (base.map encNV)), .p (.sl 2 (a.map encNV)), .p (.sl 2 (b.map encNV))] [] [] (fun _ => True) (fun _ => .tup [.h 0, .p (.v (.int .i64 (mergeStates base a b).2))]) (fun _ => [(0, .vec 62 2 ((mergeStates base a b).1.map encNV))]) := by
  refine FnE.intro Try.func19 rfl Try.ntmps19 rfl rfl (fun w0 F0 η φ w => ?_)
  refine AC.seq ?_
  refine AC.region ?_
  refine AO.yld _ (Yld.assign rfl) rfl rfl rfl ?_
  refine AO.yld _ (Yld.assign rfl) rfl rfl rfl ?_
  refine AO.nil ?_
  refine AC.seq ?_
  refine AC.seq ?_
  refine AC.region ?_
  refine AO.yld _ (Yld.move rfl) rfl rfl rfl ?_
  refine AO.yld _ (Yld.call rfl rfl Try.call36 rfl rfl rfl (impl_ValidState_c (by first | assumption | omega) (by assumption)) rfl) rfl rfl rfl ?_
  refine AO.yld _ (Yld.not rfl) rfl rfl rfl ?_
  refine AO.yld _ (Yld.move rfl) rfl rfl rfl ?_
  refine AO.splitAt 13 _ rfl (fun s13 => ?_) (fun s13 => ?_)
  · -- s13 True
    refine AO.skipF rfl rfl rfl rfl rfl ?_
    refine AO.skipF rfl rfl rfl rfl rfl ?_
    refine AO.skipF rfl rfl rfl rfl rfl ?_
    refine AO.yld _ (Yld.pickT rfl rfl) rfl rfl rfl ?_
    refine AO.yld _ (Yld.move rfl) rfl rfl rfl ?_
    refine AO.skipF rfl rfl rfl rfl rfl ?_
    refine AO.skipF rfl rfl rfl rfl rfl ?_
    refine AO.skipF rfl rfl rfl rfl rfl ?_
    refine AO.yld _ (Yld.pickT rfl rfl) rfl rfl rfl ?_
    refine AO.nil ?_
    refine AC.condT rfl ?_
    refine AC.seq ?_
    refine AC.region ?_
    refine AO.yld _ (Yld.assign rfl) rfl rfl rfl ?_
    refine AO.yld _ (Yld.assign rfl) rfl rfl rfl ?_
    refine AO.nil ?_
    refine AC.nilVec 6 0 62 2 rfl rfl ?_
    refine FnE.ret () [0] [0] Try.results19 (RVs.cons (RV.tmp rfl) (RVs.cons (RV.tmp rfl) RVs.nil)) rfl rfl rfl ?_ ?_ ⟨⟨_, rfl, ?_⟩, trivial⟩
    · -- holds
      trivial
    · -- value
      refine tupE ?_; unfold mergeStates; first | (rw [if_pos hok, if_pos hg1]; first | done | rfl) | (rw [if_pos hok, if_neg hg1, if_pos hg2]; first | done | rfl) | (rw [if_pos hok, if_neg hg1, if_neg hg2]; first | done | rfl) | rw [if_neg (by clear hnb hna hnb2 hb ha hb2; simp_all)]
    · -- thing 0
      refine vecE ?_; unfold mergeStates; first | (rw [if_pos hok, if_pos hg1]; first | done | rfl) | (rw [if_pos hok, if_neg hg1, if_pos hg2]; first | done | rfl) | (rw [if_pos hok, if_neg hg1, if_neg hg2]; first | done | rfl) | (rw [if_neg (by clear hnb hna hnb2 hb ha hb2; simp_all)]; rfl)
  · -- s13 False
    refine AO.yldG _ (Yld.move rfl) rfl rfl rfl rfl rfl ?_
    refine AO.yldG _ (Yld.call rfl rfl Try.call36 rfl rfl rfl (impl_ValidState_c (by first | assumption | omega) (by assumption)) rfl) rfl rfl rfl rfl rfl ?_
    refine AO.yldG _ (Yld.not rfl) rfl rfl rfl rfl rfl ?_
    refine AO.yld _ (Yld.pickF rfl rfl) rfl rfl rfl ?_
    refine AO.yld _ (Yld.move rfl) rfl rfl rfl ?_
    refine AO.splitAt 18 _ rfl (fun s18 => ?_) (fun s18 => ?_)
    · -- s18 True
      refine AO.skipF rfl rfl rfl rfl rfl ?_
      refine AO.skipF rfl rfl rfl rfl rfl ?_
      refine AO.skipF rfl rfl rfl rfl rfl ?_
      refine AO.yld _ (Yld.pickT rfl rfl) rfl rfl rfl ?_
      refine AO.nil ?_
      refine AC.condT rfl ?_
      refine AC.seq ?_
      refine AC.region ?_
      refine AO.yld _ (Yld.assign rfl) rfl rfl rfl ?_
      refine AO.yld _ (Yld.assign rfl) rfl rfl rfl ?_
      refine AO.nil ?_
      refine AC.nilVec 6 0 62 2 rfl rfl ?_
      refine FnE.ret () [0] [0] Try.results19 (RVs.cons (RV.tmp rfl) (RVs.cons (RV.tmp rfl) RVs.nil)) rfl rfl rfl ?_ ?_ ⟨⟨_, rfl, ?_⟩, trivial⟩
      · -- holds
        trivial
      · -- value
        refine tupE ?_; unfold mergeStates; first | (rw [if_pos hok, if_pos hg1]; first | done | rfl) | (rw [if_pos hok, if_neg hg1, if_pos hg2]; first | done | rfl) | (rw [if_pos hok, if_neg hg1, if_neg hg2]; first | done | rfl) | rw [if_neg (by clear hnb hna hnb2 hb ha hb2; simp_all)]
      · -- thing 0
        refine vecE ?_; unfold mergeStates; first | (rw [if_pos hok, if_pos hg1]; first | done | rfl) | (rw [if_pos hok, if_neg hg1, if_pos hg2]; first | done | rfl) | (rw [if_pos hok, if_neg hg1, if_neg hg2]; first | done | rfl) | (rw [if_neg (by clear hnb hna hnb2 hb ha hb2; simp_all)]; rfl)
    · -- s18 False
      refine AO.yldG _ (Yld.move rfl) rfl rfl rfl rfl rfl ?_
      refine AO.yldG _ (Yld.call rfl rfl Try.call36 rfl rfl rfl (impl_ValidState_c (by first | assumption | omega) (by assumption)) rfl) rfl rfl rfl rfl rfl ?_
      refine AO.yldG _ (Yld.not rfl) rfl rfl rfl rfl rfl ?_
      refine AO.yld _ (Yld.pickF rfl rfl) rfl rfl rfl ?_
      refine AO.nil ?_
      refine AC.cond _ rfl (fun c22 => ?_) (fun c22 => ?_)
      · -- c22 True
        refine AC.seq ?_
        refine AC.region ?_
        refine AO.yld _ (Yld.assign rfl) rfl rfl rfl ?_
        refine AO.yld _ (Yld.assign rfl) rfl rfl rfl ?_
        refine AO.nil ?_
        refine AC.nilVec 6 0 62 2 rfl rfl ?_
        refine FnE.ret () [0] [0] Try.results19 (RVs.cons (RV.tmp rfl) (RVs.cons (RV.tmp rfl) RVs.nil)) rfl rfl rfl ?_ ?_ ⟨⟨_, rfl, ?_⟩, trivial⟩
        · -- holds
          trivial
        · -- value
          refine tupE ?_; unfold mergeStates; first | (rw [if_pos hok, if_pos hg1]; first | done | rfl) | (rw [if_pos hok, if_neg hg1, if_pos hg2]; first | done | rfl) | (rw [if_pos hok, if_neg hg1, if_neg hg2]; first | done | rfl) | rw [if_neg (by clear hnb hna hnb2 hb ha hb2; simp_all)]
        · -- thing 0
          refine vecE ?_; unfold mergeStates; first | (rw [if_pos hok, if_pos hg1]; first | done | rfl) | (rw [if_pos hok, if_neg hg1, if_pos hg2]; first | done | rfl) | (rw [if_pos hok, if_neg hg1, if_neg hg2]; first | done | rfl) | (rw [if_neg (by clear hnb hna hnb2 hb ha hb2; simp_all)]; rfl)
      · -- c22 False
        have ho1 : okState base = true := by simpa using s13
        have ho2 : okState a = true := by simpa using s18
        have ho3 : okState b = true := by simpa using c22
        have hok : (okState base && okState a && okState b) = true := by rw [ho1, ho2, ho3]; rfl
        have hl1 := state_len ho1; have hl2 := state_len ho2; have hl3 := state_len ho3
        refine AC.skip ?_
        refine AC.seq ?_
        refine AC.region ?_
        refine AO.yld _ (Yld.move rfl) rfl rfl rfl ?_
        refine AO.yld _ (Yld.move rfl) rfl rfl rfl ?_
        refine AO.yld _ (Yld.move rfl) rfl rfl rfl ?_
        refine AO.callW (wantedN rfl) [0, 1] [] [0, 1] rfl rfl Try.call52 rfl (impl_mergeStates_c (by omega) (by omega) (by omega)) (.flat (.view rfl rfl (.view rfl rfl (.view rfl rfl .nil))) (fun _ => by simp [AV.Flat, AV.FlatL, PV.Flat, PV.FlatL]) (fun _ => ⟨flat_map flatS _, flat_map flatNV _, trivial⟩)) rfl (fun _ => rfl) trivial rfl (fun _ => rfl) (fun _ => rfl) (fun _ _ => ?_)
        refine AO.yld _ (Yld.move rfl) rfl rfl rfl ?_
        refine AO.yld _ (Yld.extract rfl rfl rfl) rfl rfl rfl ?_
        refine AO.yld _ (Yld.extract rfl rfl rfl) rfl rfl rfl ?_
        refine AO.yld _ (Yld.assign rfl) rfl rfl rfl ?_
        refine AO.yld _ (Yld.assign rfl) rfl rfl rfl ?_
        refine AO.nil ?_
        refine AC.seq ?_
        refine AC.block ?_
        refine AC.seq ?_
        refine AC.region ?_
        refine AO.yld _ (Yld.move rfl) rfl rfl rfl ?_
        refine AO.yld _ (Yld.len Try.underlying42 rfl rfl) rfl rfl rfl ?_
        refine AO.yld _ (Yld.int rfl rfl rfl) rfl rfl rfl ?_
        refine AO.yld _ (Yld.assign rfl) rfl rfl rfl ?_
        refine AO.nil ?_
        refine AC.cond _ rfl (fun c30 => ?_) (fun c30 => ?_)
        · -- c30 True
          have hg1 : 0 < (conflL base a b).length := by have h := c30; simpa using h
          refine AC.seq ?_
          refine AC.region ?_
          refine AO.yld _ (Yld.assign rfl) rfl rfl rfl ?_
          refine AO.yld _ (Yld.assign rfl) rfl rfl rfl ?_
          refine AO.nil ?_
          refine AC.nilVec 6 2 62 2 rfl rfl ?_
          refine FnE.ret () [2] [0] Try.results19 (RVs.cons (RV.tmp rfl) (RVs.cons (RV.tmp rfl) RVs.nil)) rfl rfl rfl ?_ ?_ ⟨⟨_, rfl, ?_⟩, trivial⟩
          · -- holds
            trivial
          · -- value
            refine tupE ?_; unfold mergeStates; first | (rw [if_pos hok, if_pos hg1]; first | done | rfl) | (rw [if_pos hok, if_neg hg1, if_pos hg2]; first | done | rfl) | (rw [if_pos hok, if_neg hg1, if_neg hg2]; first | done | rfl) | rw [if_neg (by clear hnb hna hnb2 hb ha hb2; simp_all)]
          · -- thing 0
            refine vecE ?_; unfold mergeStates; first | (rw [if_pos hok, if_pos hg1]; first | done | rfl) | (rw [if_pos hok, if_neg hg1, if_pos hg2]; first | done | rfl) | (rw [if_pos hok, if_neg hg1, if_neg hg2]; first | done | rfl) | (rw [if_neg (by clear hnb hna hnb2 hb ha hb2; simp_all)]; rfl)
        · -- c30 False
          have hg1 : ¬ 0 < (conflL base a b).length := by have h := c30; simpa using h
          refine AC.seq ?_
          refine AC.region ?_
          refine AO.yld _ (Yld.move rfl) rfl rfl rfl ?_
          refine AO.yld _ (Yld.len Try.underlying26 rfl rfl) rfl rfl rfl ?_
          refine AO.yld _ (Yld.int rfl rfl rfl) rfl rfl rfl ?_
          refine AO.yld _ (Yld.assign rfl) rfl rfl rfl ?_
          refine AO.nil ?_
          refine AC.cond _ rfl (fun c34 => ?_) (fun c34 => ?_)
          · -- c34 True
            have hg2 : 24 < (mergeL base a b).length := by have h := c34; simp only [List.length_map, decide_eq_true_eq] at h; omega
            refine AC.seq ?_
            refine AC.region ?_
            refine AO.yld _ (Yld.assign rfl) rfl rfl rfl ?_
            refine AO.yld _ (Yld.assign rfl) rfl rfl rfl ?_
            refine AO.nil ?_
            refine AC.nilVec 6 2 62 2 rfl rfl ?_
            refine FnE.ret () [2] [0] Try.results19 (RVs.cons (RV.tmp rfl) (RVs.cons (RV.tmp rfl) RVs.nil)) rfl rfl rfl ?_ ?_ ⟨⟨_, rfl, ?_⟩, trivial⟩
            · -- holds
              trivial
            · -- value
              refine tupE ?_; unfold mergeStates; first | (rw [if_pos hok, if_pos hg1]; first | done | rfl) | (rw [if_pos hok, if_neg hg1, if_pos hg2]; first | done | rfl) | (rw [if_pos hok, if_neg hg1, if_neg hg2]; first | done | rfl) | rw [if_neg (by clear hnb hna hnb2 hb ha hb2; simp_all)]
            · -- thing 0
              refine vecE ?_; unfold mergeStates; first | (rw [if_pos hok, if_pos hg1]; first | done | rfl) | (rw [if_pos hok, if_neg hg1, if_pos hg2]; first | done | rfl) | (rw [if_pos hok, if_neg hg1, if_neg hg2]; first | done | rfl) | (rw [if_neg (by clear hnb hna hnb2 hb ha hb2; simp_all)]; rfl)
          · -- c34 False
            have hg2 : ¬ 24 < (mergeL base a b).length := by have h := c34; simp only [List.length_map, decide_eq_false_iff_not] at h; omega
            refine AC.skip ?_
            refine AC.mark ?_
            refine AC.seq ?_
            refine AC.region ?_
            refine AO.yld _ (Yld.move rfl) rfl rfl rfl ?_
            refine AO.yld _ (Yld.assign rfl) rfl rfl rfl ?_
            refine AO.yld _ (Yld.assign rfl) rfl rfl rfl ?_
            refine AO.nil ?_
            refine FnE.ret () [1] [0] Try.results19 (RVs.cons (RV.tmp rfl) (RVs.cons (RV.tmp rfl) RVs.nil)) rfl rfl rfl ?_ ?_ ⟨⟨_, rfl, ?_⟩, trivial⟩
            · -- holds
              trivial
            · -- value
              refine tupE ?_; unfold mergeStates; first | (rw [if_pos hok, if_pos hg1]; first | done | rfl) | (rw [if_pos hok, if_neg hg1, if_pos hg2]; first | done | rfl) | (rw [if_pos hok, if_neg hg1, if_neg hg2]; first | done | rfl) | rw [if_neg (by clear hnb hna hnb2 hb ha hb2; simp_all)]
            · -- thing 0
              refine vecE ?_; unfold mergeStates; first | (rw [if_pos hok, if_pos hg1]; first | done | rfl) | (rw [if_pos hok, if_neg hg1, if_pos hg2]; first | done | rfl) | (rw [if_pos hok, if_neg hg1, if_neg hg2]; first | done | rfl) | (rw [if_neg (by clear hnb hna hnb2 hb ha hb2; simp_all)]; rfl)

end Go.Proofs.Ytdlpkfihjfmgeaa
