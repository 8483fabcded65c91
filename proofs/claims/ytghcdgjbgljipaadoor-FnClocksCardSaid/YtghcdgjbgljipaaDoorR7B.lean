/- Contracts of functions of the program, each by a walk of its text in the calculus V. -/
import Derived.Test.YtghcdgjbgljipaaDoorR7A
import Derived.Test.YtghcdgjbgljipaaDoorD44
set_option linter.all false
set_option linter.unusedSimpArgs false
set_option linter.unnecessarySimpa false
set_option linter.unusedVariables false
namespace Go.Proofs.YtghcdgjbgljipaaDoor
open Go Go.V
theorem ty2 : TyIs Tryd.prog 2 (.int .i64 0) 1 8 := by unfold TyIs; kernel_rfl
theorem ty9 : TyIs Tryd.prog 9 (.string ⟨#[]⟩) 1 16 := by unfold TyIs; kernel_rfl

theorem impl_SplitWords_c {s : List UInt8} (hs : s.length ≤ 1048576) :
    FnE (α := Unit) Tryd.prog 72 [.p (.v (str s))] [(0, powRE Tryd.prog)] [0] (fun _ => True) (fun _ => .p (.sl 1 ((wordsOf (sps 32 s)).map Go.V.encS))) (fun _ => [(0, powRE Tryd.prog)]) := by
  have hM : ((sps 32 s).map Go.V.encS).length = (sps 32 s).length := List.length_map ..
  have hsl := (sps_length 32 _ s (Nat.le_refl _)).2
  refine FnE.intro Tryd.func72 rfl Tryd.ntmps72 rfl rfl (fun w0 F0 η φ w => ?_)
  refine AC.seq ?_
  refine AC.region ?_
  refine AO.yld _ (Yld.assign rfl) rfl rfl rfl ?_
  refine AO.nil ?_
  refine AC.seq ?_
  refine AC.region ?_
  refine AO.yld _ (Yld.assign rfl) rfl rfl rfl ?_
  refine AO.nil ?_
  refine AC.seq ?_
  refine AC.seq ?_
  refine AC.region ?_
  refine AO.yld _ (Yld.move rfl) rfl rfl rfl ?_
  refine AO.callW (wantedN rfl) [0] [0] [0] rfl rfl Tryd.call100 rfl (split_fnE (g0 := 0) (by kernel_rfl) Tryd.strings_Split (by omega)) (.own rfl) rfl (fun _ => rfl) ⟨rfl, trivial⟩ rfl (fun _ => rfl) (fun _ => rfl) (fun _ _ => ?_)
  refine AO.yld _ (Yld.len Tryd.underlying106 rfl rfl) rfl rfl rfl ?_
  refine AO.yld _ (Yld.move rfl) rfl rfl rfl ?_
  refine AO.nil ?_
  refine AC.block ?_
  refine AC.nilVec 3 1 9 1 rfl rfl ?_
  refine AC.loopC [(2, _), (7, _), (8, _)] [(0, _), (900, _)] (fun (k : Nat) => [(9, .p (.v (.int .i64 (k : Int)))), (3, .h 1)]) (fun (k : Nat) => [(1, .vec 9 1 ((wordsOf ((sps 32 s).take k)).map Go.V.encS))]) (fun (k : Nat) => k ≤ (sps 32 s).length) (fun (k : Nat) => (sps 32 s).length - k) 0 ⟨rfl, rfl, rfl, trivial⟩ ⟨rfl, rfl, trivial⟩ ⟨rfl, rfl, trivial⟩ ⟨rfl, trivial⟩ ?_ (fun k hJ => ?_)
  · exact Nat.zero_le _
  · -- round
    refine AC.seq ?_
    refine AC.region ?_
    refine AO.yld _ (Yld.int rfl rfl rfl) rfl rfl rfl ?_
    refine AO.nil ?_
    refine AC.seq ?_
    refine AC.cond _ rfl (fun c10 => ?_) (fun c10 => ?_)
    · -- c10 True
      have hk := lt_of_decM c10
      obtain ⟨w9, hx⟩ := get_some hk
      have hrow := map_row (enc := Go.V.encS) hx
      have hwl := words_len ((sps 32 s).take k)
      rw [List.length_take] at hwl
      refine AC.skip ?_
      refine AC.seq ?_
      refine AC.block ?_
      refine AC.seq ?_
      refine AC.region ?_
      refine AO.yld _ (Yld.indexSl Tryd.underlying106 Tryd.sizeOf9 rfl rfl hrow rfl) rfl rfl rfl ?_
      refine AO.yld _ (Yld.load Tryd.isAgg9 rfl rfl) rfl rfl rfl ?_
      refine AO.yld _ (Yld.assign rfl) rfl rfl rfl ?_
      refine AO.nil ?_
      refine AC.seq ?_
      refine AC.region ?_
      refine AO.yld _ (Yld.move rfl) rfl rfl rfl ?_
      refine AO.yld _ (Yld.cmpStr rfl rfl rfl) rfl rfl rfl ?_
      refine AO.nil ?_
      refine AC.cond _ rfl (fun c14 => ?_) (fun c14 => ?_)
      · -- c14 True
        have hne : w9 ≠ [] := by simpa using c14
        refine AC.region ?_
        refine AO.yld _ (Yld.move rfl) rfl rfl rfl ?_
        refine AO.yld _ (Yld.move rfl) rfl rfl rfl ?_
        refine AO.buildSlice (rows := [[_]]) 2 Tryd.underlying106 ty9 rfl rfl rfl rfl rfl rfl rfl rfl rfl ?_
        refine AO.append 1 Tryd.underlying106 ty9 rfl rfl rfl rfl rfl rfl rfl (by simp [pvOne, str]) (by simp only [List.length_map, List.length_cons, List.length_nil]; omega) (by simp only [List.length_map, List.length_cons, List.length_nil]; omega) rfl ?_
        refine AO.yld _ (Yld.assign rfl) rfl rfl rfl ?_
        refine AO.nil ?_
        refine AC.mark ?_
        refine AC.region ?_
        refine AO.yld _ (Yld.add rfl rfl (by omega) (by omega)) rfl rfl rfl ?_
        refine AO.yld _ (Yld.move rfl) rfl rfl rfl ?_
        refine AO.nil ?_
        refine AC.back ⟨k + 1, ?_, ?_, ⟨?_, ?_, trivial⟩, ⟨?_, trivial⟩, ⟨rfl, rfl, rfl, trivial⟩, ⟨rfl, rfl, trivial⟩⟩
        · exact hk
        · omega
        · rfl
        · rfl
        · first | (rw [wordsTo_T hx hne, map_snoc]; rfl) | (rw [wordsTo_F hx hne]; rfl)
      · -- c14 False
        have hne : w9 = [] := by simpa using c14
        refine AC.skip ?_
        refine AC.mark ?_
        refine AC.region ?_
        refine AO.yld _ (Yld.add rfl rfl (by omega) (by omega)) rfl rfl rfl ?_
        refine AO.yld _ (Yld.move rfl) rfl rfl rfl ?_
        refine AO.nil ?_
        refine AC.back ⟨k + 1, ?_, ?_, ⟨?_, ?_, trivial⟩, ⟨?_, trivial⟩, ⟨rfl, rfl, rfl, trivial⟩, ⟨rfl, rfl, trivial⟩⟩
        · exact hk
        · omega
        · rfl
        · rfl
        · first | (rw [wordsTo_T hx hne, map_snoc]; rfl) | (rw [wordsTo_F hx hne]; rfl)
    · -- c10 False
      obtain rfl : k = (sps 32 s).length := by have := ge_of_decM c10; omega
      refine AC.exit rfl ?_
      refine AC.seq ?_
      refine AC.region ?_
      refine AO.yld _ (Yld.move rfl) rfl rfl rfl ?_
      refine AO.yld _ (Yld.assign rfl) rfl rfl rfl ?_
      refine AO.nil ?_
      refine AC.freeze 1 rfl ?_
      refine FnE.ret () [0] [0] Tryd.results72 (RVs.cons (RV.tmp rfl) RVs.nil) rfl rfl rfl ?_ ?_ ⟨⟨_, rfl, ?_⟩, trivial⟩
      · -- holds
        trivial
      · -- value
        rw [List.take_length]; rfl
      · -- thing 0
        first | rfl | exact vecE (by first | rfl | (simp_all; done) | grind) | (simp_all; done)

theorem impl_readNumbers_c {ws : List (List UInt8)} (hn : ws.length ≤ 1048576) :
    FnE (α := Unit) Tryd.prog 73 [.p (.sl 1 (ws.map Go.V.encS))] [(0, powRE Tryd.prog)] [0] (fun _ => True) (fun _ => .tup [.p (.sl 1 ((numsOk ws).map Go.V.encI)), .p (.v (.bool (allRead ws)))]) (fun _ => [(0, powRE Tryd.prog)]) := by
  have hM : (ws.map Go.V.encS).length = ws.length := List.length_map ..
  obtain ⟨xs, hxs⟩ : ∃ xs, xs = ws.map numOf := ⟨_, rfl⟩
  have hxl : xs.length = ws.length := by rw [hxs, List.length_map]
  refine FnE.intro Tryd.func73 rfl Tryd.ntmps73 rfl rfl (fun w0 F0 η φ w => ?_)
  refine AC.seq ?_
  refine AC.region ?_
  refine AO.yld _ (Yld.assign rfl) rfl rfl rfl ?_
  refine AO.yld _ (Yld.assign rfl) rfl rfl rfl ?_
  refine AO.nil ?_
  refine AC.seq ?_
  refine AC.region ?_
  refine AO.yld _ (Yld.move rfl) rfl rfl rfl ?_
  refine AO.yld _ (Yld.len Tryd.underlying106 rfl rfl) rfl rfl rfl ?_
  refine AO.make 1 Tryd.underlying39 ty2 rfl rfl rfl rfl rfl (Nat.le_refl _) (by rw [hM]; omega) (by rw [hM]; omega) rfl rfl ?_
  refine AO.yld _ (Yld.assign rfl) rfl rfl rfl ?_
  refine AO.nil ?_
  refine AC.seq ?_
  refine AC.seq ?_
  refine AC.region ?_
  refine AO.yld _ (Yld.move rfl) rfl rfl rfl ?_
  refine AO.yld _ (Yld.len Tryd.underlying106 rfl rfl) rfl rfl rfl ?_
  refine AO.yld _ (Yld.move rfl) rfl rfl rfl ?_
  refine AO.nil ?_
  refine AC.block ?_
  refine AC.loopC [(4, _), (12, _), (13, _)] [(0, _), (900, _)] (fun (k : Nat) => [(14, .p (.v (.int .i64 (k : Int)))), (4, .h 1)]) (fun (k : Nat) => [(1, .vec 2 1 (filled Go.V.encI [.v (.int .i64 0)] xs k))]) (fun (k : Nat) => k ≤ ws.length ∧ ∀ w ∈ ws.take k, (readDec w).isSome = true) (fun (k : Nat) => ws.length - k) 0 ⟨rfl, rfl, rfl, trivial⟩ ⟨rfl, rfl, trivial⟩ ⟨rfl, rfl, trivial⟩ ⟨by rw [filled_zero, hxl, ← hM]; rfl, trivial⟩ ?_ (fun k hJ => ?_)
  · exact ⟨Nat.zero_le _, by simp⟩
  · -- round
    refine AC.seq ?_
    refine AC.region ?_
    refine AO.yld _ (Yld.int rfl rfl rfl) rfl rfl rfl ?_
    refine AO.nil ?_
    refine AC.seq ?_
    refine AC.cond _ rfl (fun c15 => ?_) (fun c15 => ?_)
    · -- c15 True
      have hk := lt_of_decM c15
      obtain ⟨w9, hx⟩ := get_some hk
      have hrow := map_row (enc := Go.V.encS) hx
      have hx2 : xs[k]? = some (numOf w9) := by rw [hxs, List.getElem?_map, hx]; rfl
      refine AC.skip ?_
      refine AC.seq ?_
      refine AC.block ?_
      refine AC.seq ?_
      refine AC.region ?_
      refine AO.yld _ (Yld.move rfl) rfl rfl rfl ?_
      refine AO.yld _ (Yld.indexSl Tryd.underlying106 Tryd.sizeOf9 rfl rfl hrow rfl) rfl rfl rfl ?_
      refine AO.yld _ (Yld.load Tryd.isAgg9 rfl rfl) rfl rfl rfl ?_
      refine AO.yld _ (Yld.assign rfl) rfl rfl rfl ?_
      refine AO.yld _ (Yld.assign rfl) rfl rfl rfl ?_
      refine AO.nil ?_
      refine AC.seq ?_
      refine AC.region ?_
      refine AO.yld _ (Yld.move rfl) rfl rfl rfl ?_
      refine AO.callW (wantedN rfl) [0] [0] [0] rfl rfl Tryd.call101 rfl (impl_ReadDecimal_c) (.own rfl) rfl (fun _ => rfl) ⟨rfl, trivial⟩ rfl (fun _ => rfl) (fun _ => rfl) (fun _ _ => ?_)
      refine AO.yld _ (Yld.move rfl) rfl rfl rfl ?_
      refine AO.yld _ (Yld.extract rfl rfl rfl) rfl rfl rfl ?_
      refine AO.yld _ (Yld.extract rfl rfl rfl) rfl rfl rfl ?_
      refine AO.yld _ (Yld.assign rfl) rfl rfl rfl ?_
      refine AO.yld _ (Yld.assign rfl) rfl rfl rfl ?_
      refine AO.nil ?_
      refine AC.seq ?_
      refine AC.seq ?_
      refine AC.region ?_
      refine AO.yld _ (Yld.move rfl) rfl rfl rfl ?_
      refine AO.yld _ (Yld.not rfl) rfl rfl rfl ?_
      refine AO.nil ?_
      refine AC.cond _ rfl (fun c25 => ?_) (fun c25 => ?_)
      · -- c25 True
        have hno : allRead ws = false := allRead_miss hx (by have h := c25; cases hq : readDec w9 with | none => rfl | some n => rw [hq] at h; cases h)
        refine AC.seq ?_
        refine AC.region ?_
        refine AO.yld _ (Yld.assign rfl) rfl rfl rfl ?_
        refine AO.yld _ (Yld.assign rfl) rfl rfl rfl ?_
        refine AO.nil ?_
        refine AC.nilVec 2 2 2 1 rfl rfl ?_
        refine AC.freeze 2 rfl ?_
        refine FnE.ret () [0] [0] Tryd.results73 (RVs.cons (RV.tmp rfl) (RVs.cons (RV.tmp rfl) RVs.nil)) rfl rfl rfl ?_ ?_ ⟨⟨_, rfl, ?_⟩, trivial⟩
        · -- holds
          trivial
        · -- value
          first
            | (rw [hno]; unfold numsOk; rw [hno]; rfl)
            | (rw [hall]; unfold numsOk; rw [hall, if_pos rfl, ← hxs, ← hxl, filled_end]; rfl)
        · -- thing 0
          first | rfl | exact vecE (by first | rfl | (simp_all; done) | grind) | (simp_all; done)
      · -- c25 False
        have hsm : (readDec w9).isSome = true := by have h := c25; rw [Bool.not_eq_false'] at h; exact h
        refine AC.skip ?_
        refine AC.region ?_
        refine AO.yld _ (Yld.move rfl) rfl rfl rfl ?_
        refine AO.yld _ (Yld.move rfl) rfl rfl rfl ?_
        refine AO.yld _ (Yld.move rfl) rfl rfl rfl ?_
        refine AO.yld _ (Yld.indexVec Tryd.underlying39 Tryd.sizeOf2 rfl rfl rfl rfl (by rw [filled_length (by omega)]; omega)) rfl rfl rfl ?_
        refine AO.store Tryd.sizeOf2 rfl rfl rfl rfl rfl (store_el rfl (filled_get (by omega)) rfl rfl) ?_
        refine AO.nil ?_
        refine AC.mark ?_
        refine AC.region ?_
        refine AO.yld _ (Yld.add rfl rfl (by omega) (by omega)) rfl rfl rfl ?_
        refine AO.yld _ (Yld.move rfl) rfl rfl rfl ?_
        refine AO.nil ?_
        refine AC.back ⟨k + 1, ?_, ?_, ⟨?_, ?_, trivial⟩, ⟨?_, trivial⟩, ⟨rfl, rfl, rfl, trivial⟩, ⟨rfl, rfl, trivial⟩⟩
        · exact ⟨hk, fun w hw => by rw [take_snoc hx, List.mem_append, List.mem_singleton] at hw; rcases hw with hw | rfl; exact hJ.2 w hw; exact hsm⟩
        · omega
        · rfl
        · rfl
        · rw [← filled_set hx2]; rfl
    · -- c15 False
      obtain rfl : k = ws.length := by have := ge_of_decM c15; omega
      have hall : allRead ws = true := allRead_all (fun w hw => hJ.2 w (by rw [List.take_length]; exact hw))
      refine AC.exit rfl ?_
      refine AC.seq ?_
      refine AC.region ?_
      refine AO.yld _ (Yld.move rfl) rfl rfl rfl ?_
      refine AO.yld _ (Yld.assign rfl) rfl rfl rfl ?_
      refine AO.yld _ (Yld.assign rfl) rfl rfl rfl ?_
      refine AO.nil ?_
      refine AC.freeze 1 rfl ?_
      refine FnE.ret () [0] [0] Tryd.results73 (RVs.cons (RV.tmp rfl) (RVs.cons (RV.tmp rfl) RVs.nil)) rfl rfl rfl ?_ ?_ ⟨⟨_, rfl, ?_⟩, trivial⟩
      · -- holds
        trivial
      · -- value
        first
          | (rw [hno]; unfold numsOk; rw [hno]; rfl)
          | (rw [hall]; unfold numsOk; rw [hall, if_pos rfl, ← hxs, ← hxl, filled_end]; rfl)
      · -- thing 0
        first | rfl | exact vecE (by first | rfl | (simp_all; done) | grind) | (simp_all; done)

end Go.Proofs.YtghcdgjbgljipaaDoor
