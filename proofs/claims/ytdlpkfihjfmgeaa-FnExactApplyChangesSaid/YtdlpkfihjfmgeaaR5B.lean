/- Contracts of functions of the program, each by a walk of its text in the calculus V. -/
import Derived.Test.YtdlpkfihjfmgeaaR5A
set_option linter.all false
set_option linter.unusedSimpArgs false
set_option linter.unnecessarySimpa false
set_option linter.unusedVariables false
namespace Go.Proofs.Ytdlpkfihjfmgeaa
open Go Go.V

theorem spec_l27Set_c {xs : List NV} {e : NV} (hr : Rises (namesOf xs)) (hn : xs.length ≤ 1048576) :
    FnE (α := Unit) Try.prog 32 [.p (.sl 2 (xs.map encNV)), .agg [.p (.v (str e.name)), .p (.v (.int .i64 e.val))]] [] [] (fun _ => True) (fun _ => .h 0) (fun _ => [(0, .vec 62 2 ((setL xs e).map encNV))]) := by
  refine FnE.intro Try.func32 rfl Try.ntmps32 rfl rfl (fun w0 F0 η φ w => ?_)
  refine AC.seq ?_
  refine AC.region ?_
  refine AO.box 0 rfl rfl rfl rfl rfl ?_
  refine AO.yld _ (Yld.assign rfl) rfl rfl rfl ?_
  refine AO.nil ?_
  refine AC.seq ?_
  refine AC.region ?_
  refine AO.buildSlice (rows := []) 1 Try.underlying26 ty62 rfl rfl rfl rfl rfl rfl rfl rfl rfl ?_
  refine AO.yld _ (Yld.assign rfl) rfl rfl rfl ?_
  refine AO.nil ?_
  refine AC.seq ?_
  refine AC.region ?_
  refine AO.yld _ (Yld.assign rfl) rfl rfl rfl ?_
  refine AO.nil ?_
  refine AC.seq ?_
  refine AC.seq ?_
  refine AC.region ?_
  refine AO.yld _ (Yld.assign rfl) rfl rfl rfl ?_
  refine AO.nil ?_
  refine AC.block ?_
  refine AC.loopC [(0, _), (3, _), (4, _)] [(0, _), (900, _)] (fun (k : Nat) => [(7, .p (.v (.int .i64 (k : Int)))), (6, .p (.v (.bool (setTo xs e k).2))), (5, .h 1)]) (fun (k : Nat) => [(1, .vec 62 2 ((setTo xs e k).1.map encNV))]) (fun (k : Nat) => k ≤ xs.length) (fun (k : Nat) => xs.length - k) 0 ⟨rfl, rfl, rfl, trivial⟩ ⟨rfl, rfl, trivial⟩ ⟨rfl, by rw [setTo_zero]; rfl, rfl, trivial⟩ ⟨rfl, trivial⟩ ?_ (fun k hJ => ?_)
  · exact Nat.zero_le _
  · -- round
    refine AC.seq ?_
    refine AC.seq ?_
    refine AC.region ?_
    refine AO.yld _ (Yld.move rfl) rfl rfl rfl ?_
    refine AO.yld _ (Yld.move rfl) rfl rfl rfl ?_
    refine AO.yld _ (Yld.len Try.underlying26 rfl rfl) rfl rfl rfl ?_
    refine AO.yld _ (Yld.int rfl rfl rfl) rfl rfl rfl ?_
    refine AO.nil ?_
    refine AC.cond _ rfl (fun c12 => ?_) (fun c12 => ?_)
    · -- c12 True
      have hk := lt_of_decM c12
      obtain ⟨x, hx⟩ := get_some hk
      have hrow := map_row (enc := encNV) hx
      refine AC.skip ?_
      refine AC.seq ?_
      refine AC.block ?_
      refine AC.seq ?_
      refine AC.seq ?_
      refine AC.draw (by kernel_rfl) (by kernel_rfl) ?_
      refine AO.yld _ (Yld.move rfl) rfl rfl rfl ?_
      refine AO.yld _ (Yld.not rfl) rfl rfl rfl ?_
      refine AO.yld _ (Yld.move rfl) rfl rfl rfl ?_
      refine AO.splitAt 17 _ rfl (fun s17 => ?_) (fun s17 => ?_)
      · -- s17 True
        have hd : (setTo xs e k).2 = false := by simpa using s17
        refine AO.yldG _ (Yld.move rfl) rfl rfl rfl rfl rfl ?_
        refine AO.yldG _ (Yld.move rfl) rfl rfl rfl rfl rfl ?_
        refine AO.yldG _ (Yld.indexSl Try.underlying26 Try.sizeOf62 rfl rfl hrow rfl) rfl rfl rfl rfl rfl ?_
        refine AO.yldG _ (Yld.fieldAddr Try.underlying62 rfl rfl Try.sizeOf9 rfl rfl rfl) rfl rfl rfl rfl rfl ?_
        refine AO.yldG _ (Yld.load Try.isAgg9 rfl rfl) rfl rfl rfl rfl rfl ?_
        refine AO.yldG _ (Yld.fieldAddr Try.underlying62 rfl rfl Try.sizeOf9 rfl rfl rfl) rfl rfl rfl rfl rfl ?_
        refine AO.yldG _ (Yld.load Try.isAgg9 rfl rfl) rfl rfl rfl rfl rfl ?_
        refine AO.yldG _ (Yld.cmpStr rfl rfl rfl) rfl rfl rfl rfl rfl ?_
        refine AO.yld _ (Yld.pickT rfl rfl) rfl rfl rfl ?_
        refine AO.nil ?_
        refine AC.cond _ rfl (fun c26 => ?_) (fun c26 => ?_)
        · -- c26 True
          have hmid : midSet xs e k x = ((setTo xs e k).1 ++ [e], true) := mid_yes hd (by simpa using c26)
          refine AC.seq ?_
          refine AC.region ?_
          refine AO.yld _ (Yld.move rfl) rfl rfl rfl ?_
          refine AO.yld _ (Yld.loadAgg Try.isAgg62 Try.sizeOf62 rfl rfl rfl rfl) rfl rfl rfl ?_
          refine AO.buildSlice (rows := [[_, _]]) 2 Try.underlying26 ty62 rfl rfl rfl rfl rfl rfl rfl rfl rfl ?_
          refine AO.append 1 Try.underlying26 ty62 rfl rfl rfl rfl rfl rfl rfl (by intro r hr q hq; simp only [List.mem_cons, List.not_mem_nil, or_false] at hr; subst hr; simp only [encNV, List.mem_cons, List.not_mem_nil, or_false] at hq; rcases hq with rfl | rfl <;> rfl) (by have := setTo_len (xs := xs) (e := e) (k := k); simp only [List.length_map, List.length_append, List.length_cons, List.length_nil]; omega) (by have := setTo_len (xs := xs) (e := e) (k := k); simp only [List.length_map, List.length_append, List.length_cons, List.length_nil]; omega) rfl ?_
          refine AO.yld _ (Yld.assign rfl) rfl rfl rfl ?_
          refine AO.nil ?_
          refine AC.region ?_
          refine AO.yld _ (Yld.assign rfl) rfl rfl rfl ?_
          refine AO.nil ?_
          refine AC.seq ?_
          refine AC.draw (by kernel_rfl) (by kernel_rfl) ?_
          refine AO.yld _ (Yld.move rfl) rfl rfl rfl ?_
          refine AO.yld _ (Yld.move rfl) rfl rfl rfl ?_
          refine AO.yld _ (Yld.indexSl Try.underlying26 Try.sizeOf62 rfl rfl hrow rfl) rfl rfl rfl ?_
          refine AO.yld _ (Yld.fieldAddr Try.underlying62 rfl rfl Try.sizeOf9 rfl rfl rfl) rfl rfl rfl ?_
          refine AO.yld _ (Yld.load Try.isAgg9 rfl rfl) rfl rfl rfl ?_
          refine AO.yld _ (Yld.fieldAddr Try.underlying62 rfl rfl Try.sizeOf9 rfl rfl rfl) rfl rfl rfl ?_
          refine AO.yld _ (Yld.load Try.isAgg9 rfl rfl) rfl rfl rfl ?_
          refine AO.yld _ (Yld.cmpStr rfl rfl rfl) rfl rfl rfl ?_
          refine AO.nil ?_
          refine AC.cond _ rfl (fun c38 => ?_) (fun c38 => ?_)
          · -- c38 True
            have hst : setTo xs e (k + 1) = ((midSet xs e k x).1 ++ [x], (midSet xs e k x).2) := by rw [setTo_succ hr hx, if_pos (by simpa using c38)]
            rw [hmid] at hst
            refine AC.region ?_
            refine AO.yld _ (Yld.move rfl) rfl rfl rfl ?_
            refine AO.yld _ (Yld.move rfl) rfl rfl rfl ?_
            refine AO.yld _ (Yld.move rfl) rfl rfl rfl ?_
            refine AO.yld _ (Yld.indexSl Try.underlying26 Try.sizeOf62 rfl rfl hrow rfl) rfl rfl rfl ?_
            refine AO.yld _ (Yld.loadAgg Try.isAgg62 Try.sizeOf62 rfl rfl rfl rfl) rfl rfl rfl ?_
            refine AO.buildSlice (rows := [[_, _]]) 3 Try.underlying26 ty62 rfl rfl rfl rfl rfl rfl rfl rfl rfl ?_
            refine AO.append 1 Try.underlying26 ty62 rfl rfl rfl rfl rfl rfl rfl (by intro r hr q hq; simp only [List.mem_cons, List.not_mem_nil, or_false] at hr; subst hr; simp only [encNV, List.mem_cons, List.not_mem_nil, or_false] at hq; rcases hq with rfl | rfl <;> rfl) (by have := setTo_len (xs := xs) (e := e) (k := k); simp only [List.length_map, List.length_append, List.length_cons, List.length_nil]; omega) (by have := setTo_len (xs := xs) (e := e) (k := k); simp only [List.length_map, List.length_append, List.length_cons, List.length_nil]; omega) rfl ?_
            refine AO.yld _ (Yld.assign rfl) rfl rfl rfl ?_
            refine AO.nil ?_
            refine AC.mark ?_
            refine AC.region ?_
            refine AO.yld _ (Yld.move rfl) rfl rfl rfl ?_
            refine AO.yld _ (Yld.add rfl rfl (by omega) (by omega)) rfl rfl rfl ?_
            refine AO.yld _ (Yld.assign rfl) rfl rfl rfl ?_
            refine AO.nil ?_
            refine AC.back ⟨k + 1, ?_, ?_, ⟨?_, ?_, ?_, trivial⟩, ⟨?_, trivial⟩, ⟨rfl, rfl, rfl, trivial⟩, ⟨rfl, rfl, trivial⟩⟩
            · exact hk
            · omega
            · rfl
            · rw [hst]; rfl
            · rfl
            · rw [hst]; first | rfl | (simp only [List.map_append, List.map_cons, List.map_nil]; rfl)
          · -- c38 False
            have hst : setTo xs e (k + 1) = midSet xs e k x := by rw [setTo_succ hr hx, if_neg (by simpa using c38)]
            rw [hmid] at hst
            refine AC.skip ?_
            refine AC.mark ?_
            refine AC.region ?_
            refine AO.yld _ (Yld.move rfl) rfl rfl rfl ?_
            refine AO.yld _ (Yld.add rfl rfl (by omega) (by omega)) rfl rfl rfl ?_
            refine AO.yld _ (Yld.assign rfl) rfl rfl rfl ?_
            refine AO.nil ?_
            refine AC.back ⟨k + 1, ?_, ?_, ⟨?_, ?_, ?_, trivial⟩, ⟨?_, trivial⟩, ⟨rfl, rfl, rfl, trivial⟩, ⟨rfl, rfl, trivial⟩⟩
            · exact hk
            · omega
            · rfl
            · rw [hst]; rfl
            · rfl
            · rw [hst]; first | rfl | (simp only [List.map_append, List.map_cons, List.map_nil]; rfl)
        · -- c26 False
          have hmid : midSet xs e k x = setTo xs e k := mid_no2 (by simpa using c26)
          refine AC.skip ?_
          refine AC.seq ?_
          refine AC.draw (by kernel_rfl) (by kernel_rfl) ?_
          refine AO.yld _ (Yld.move rfl) rfl rfl rfl ?_
          refine AO.yld _ (Yld.move rfl) rfl rfl rfl ?_
          refine AO.yld _ (Yld.indexSl Try.underlying26 Try.sizeOf62 rfl rfl hrow rfl) rfl rfl rfl ?_
          refine AO.yld _ (Yld.fieldAddr Try.underlying62 rfl rfl Try.sizeOf9 rfl rfl rfl) rfl rfl rfl ?_
          refine AO.yld _ (Yld.load Try.isAgg9 rfl rfl) rfl rfl rfl ?_
          refine AO.yld _ (Yld.fieldAddr Try.underlying62 rfl rfl Try.sizeOf9 rfl rfl rfl) rfl rfl rfl ?_
          refine AO.yld _ (Yld.load Try.isAgg9 rfl rfl) rfl rfl rfl ?_
          refine AO.yld _ (Yld.cmpStr rfl rfl rfl) rfl rfl rfl ?_
          refine AO.nil ?_
          refine AC.cond _ rfl (fun c38 => ?_) (fun c38 => ?_)
          · -- c38 True
            have hst : setTo xs e (k + 1) = ((midSet xs e k x).1 ++ [x], (midSet xs e k x).2) := by rw [setTo_succ hr hx, if_pos (by simpa using c38)]
            rw [hmid] at hst
            refine AC.region ?_
            refine AO.yld _ (Yld.move rfl) rfl rfl rfl ?_
            refine AO.yld _ (Yld.move rfl) rfl rfl rfl ?_
            refine AO.yld _ (Yld.move rfl) rfl rfl rfl ?_
            refine AO.yld _ (Yld.indexSl Try.underlying26 Try.sizeOf62 rfl rfl hrow rfl) rfl rfl rfl ?_
            refine AO.yld _ (Yld.loadAgg Try.isAgg62 Try.sizeOf62 rfl rfl rfl rfl) rfl rfl rfl ?_
            refine AO.buildSlice (rows := [[_, _]]) 2 Try.underlying26 ty62 rfl rfl rfl rfl rfl rfl rfl rfl rfl ?_
            refine AO.append 1 Try.underlying26 ty62 rfl rfl rfl rfl rfl rfl rfl (by intro r hr q hq; simp only [List.mem_cons, List.not_mem_nil, or_false] at hr; subst hr; simp only [encNV, List.mem_cons, List.not_mem_nil, or_false] at hq; rcases hq with rfl | rfl <;> rfl) (by have := setTo_len (xs := xs) (e := e) (k := k); simp only [List.length_map, List.length_append, List.length_cons, List.length_nil]; omega) (by have := setTo_len (xs := xs) (e := e) (k := k); simp only [List.length_map, List.length_append, List.length_cons, List.length_nil]; omega) rfl ?_
            refine AO.yld _ (Yld.assign rfl) rfl rfl rfl ?_
            refine AO.nil ?_
            refine AC.mark ?_
            refine AC.region ?_
            refine AO.yld _ (Yld.move rfl) rfl rfl rfl ?_
            refine AO.yld _ (Yld.add rfl rfl (by omega) (by omega)) rfl rfl rfl ?_
            refine AO.yld _ (Yld.assign rfl) rfl rfl rfl ?_
            refine AO.nil ?_
            refine AC.back ⟨k + 1, ?_, ?_, ⟨?_, ?_, ?_, trivial⟩, ⟨?_, trivial⟩, ⟨rfl, rfl, rfl, trivial⟩, ⟨rfl, rfl, trivial⟩⟩
            · exact hk
            · omega
            · rfl
            · rw [hst]; rfl
            · rfl
            · rw [hst]; first | rfl | (simp only [List.map_append, List.map_cons, List.map_nil]; rfl)
          · -- c38 False
            have hst : setTo xs e (k + 1) = midSet xs e k x := by rw [setTo_succ hr hx, if_neg (by simpa using c38)]
            rw [hmid] at hst
            refine AC.skip ?_
            refine AC.mark ?_
            refine AC.region ?_
            refine AO.yld _ (Yld.move rfl) rfl rfl rfl ?_
            refine AO.yld _ (Yld.add rfl rfl (by omega) (by omega)) rfl rfl rfl ?_
            refine AO.yld _ (Yld.assign rfl) rfl rfl rfl ?_
            refine AO.nil ?_
            refine AC.back ⟨k + 1, ?_, ?_, ⟨?_, ?_, ?_, trivial⟩, ⟨?_, trivial⟩, ⟨rfl, rfl, rfl, trivial⟩, ⟨rfl, rfl, trivial⟩⟩
            · exact hk
            · omega
            · rfl
            · rw [hst]; rfl
            · rfl
            · rw [hst]; first | rfl | (simp only [List.map_append, List.map_cons, List.map_nil]; rfl)
      · -- s17 False
        have hmid : midSet xs e k x = setTo xs e k := mid_no1 (by simpa using s17)
        refine AO.skipT rfl rfl rfl rfl rfl ?_
        refine AO.skipT rfl rfl rfl rfl rfl ?_
        refine AO.skipT rfl rfl rfl rfl rfl ?_
        refine AO.skipT rfl rfl rfl rfl rfl ?_
        refine AO.skipT rfl rfl rfl rfl rfl ?_
        refine AO.skipT rfl rfl rfl rfl rfl ?_
        refine AO.skipT rfl rfl rfl rfl rfl ?_
        refine AO.skipT rfl rfl rfl rfl rfl ?_
        refine AO.yld _ (Yld.pickF rfl rfl) rfl rfl rfl ?_
        refine AO.nil ?_
        refine AC.condF rfl ?_
        refine AC.skip ?_
        refine AC.seq ?_
        refine AC.draw (by kernel_rfl) (by kernel_rfl) ?_
        refine AO.yld _ (Yld.move rfl) rfl rfl rfl ?_
        refine AO.yld _ (Yld.move rfl) rfl rfl rfl ?_
        refine AO.yld _ (Yld.indexSl Try.underlying26 Try.sizeOf62 rfl rfl hrow rfl) rfl rfl rfl ?_
        refine AO.yld _ (Yld.fieldAddr Try.underlying62 rfl rfl Try.sizeOf9 rfl rfl rfl) rfl rfl rfl ?_
        refine AO.yld _ (Yld.load Try.isAgg9 rfl rfl) rfl rfl rfl ?_
        refine AO.yld _ (Yld.fieldAddr Try.underlying62 rfl rfl Try.sizeOf9 rfl rfl rfl) rfl rfl rfl ?_
        refine AO.yld _ (Yld.load Try.isAgg9 rfl rfl) rfl rfl rfl ?_
        refine AO.yld _ (Yld.cmpStr rfl rfl rfl) rfl rfl rfl ?_
        refine AO.nil ?_
        refine AC.cond _ rfl (fun c38 => ?_) (fun c38 => ?_)
        · -- c38 True
          have hst : setTo xs e (k + 1) = ((midSet xs e k x).1 ++ [x], (midSet xs e k x).2) := by rw [setTo_succ hr hx, if_pos (by simpa using c38)]
          rw [hmid] at hst
          refine AC.region ?_
          refine AO.yld _ (Yld.move rfl) rfl rfl rfl ?_
          refine AO.yld _ (Yld.move rfl) rfl rfl rfl ?_
          refine AO.yld _ (Yld.move rfl) rfl rfl rfl ?_
          refine AO.yld _ (Yld.indexSl Try.underlying26 Try.sizeOf62 rfl rfl hrow rfl) rfl rfl rfl ?_
          refine AO.yld _ (Yld.loadAgg Try.isAgg62 Try.sizeOf62 rfl rfl rfl rfl) rfl rfl rfl ?_
          refine AO.buildSlice (rows := [[_, _]]) 2 Try.underlying26 ty62 rfl rfl rfl rfl rfl rfl rfl rfl rfl ?_
          refine AO.append 1 Try.underlying26 ty62 rfl rfl rfl rfl rfl rfl rfl (by intro r hr q hq; simp only [List.mem_cons, List.not_mem_nil, or_false] at hr; subst hr; simp only [encNV, List.mem_cons, List.not_mem_nil, or_false] at hq; rcases hq with rfl | rfl <;> rfl) (by have := setTo_len (xs := xs) (e := e) (k := k); simp only [List.length_map, List.length_append, List.length_cons, List.length_nil]; omega) (by have := setTo_len (xs := xs) (e := e) (k := k); simp only [List.length_map, List.length_append, List.length_cons, List.length_nil]; omega) rfl ?_
          refine AO.yld _ (Yld.assign rfl) rfl rfl rfl ?_
          refine AO.nil ?_
          refine AC.mark ?_
          refine AC.region ?_
          refine AO.yld _ (Yld.move rfl) rfl rfl rfl ?_
          refine AO.yld _ (Yld.add rfl rfl (by omega) (by omega)) rfl rfl rfl ?_
          refine AO.yld _ (Yld.assign rfl) rfl rfl rfl ?_
          refine AO.nil ?_
          refine AC.back ⟨k + 1, ?_, ?_, ⟨?_, ?_, ?_, trivial⟩, ⟨?_, trivial⟩, ⟨rfl, rfl, rfl, trivial⟩, ⟨rfl, rfl, trivial⟩⟩
          · exact hk
          · omega
          · rfl
          · rw [hst]; rfl
          · rfl
          · rw [hst]; first | rfl | (simp only [List.map_append, List.map_cons, List.map_nil]; rfl)
        · -- c38 False
          have hst : setTo xs e (k + 1) = midSet xs e k x := by rw [setTo_succ hr hx, if_neg (by simpa using c38)]
          rw [hmid] at hst
          refine AC.skip ?_
          refine AC.mark ?_
          refine AC.region ?_
          refine AO.yld _ (Yld.move rfl) rfl rfl rfl ?_
          refine AO.yld _ (Yld.add rfl rfl (by omega) (by omega)) rfl rfl rfl ?_
          refine AO.yld _ (Yld.assign rfl) rfl rfl rfl ?_
          refine AO.nil ?_
          refine AC.back ⟨k + 1, ?_, ?_, ⟨?_, ?_, ?_, trivial⟩, ⟨?_, trivial⟩, ⟨rfl, rfl, rfl, trivial⟩, ⟨rfl, rfl, trivial⟩⟩
          · exact hk
          · omega
          · rfl
          · rw [hst]; rfl
          · rfl
          · rw [hst]; first | rfl | (simp only [List.map_append, List.map_cons, List.map_nil]; rfl)
    · -- c12 False
      obtain rfl : k = xs.length := by have := ge_of_decM c12; omega
      refine AC.exit rfl ?_
      refine AC.seq ?_
      refine AC.seq ?_
      refine AC.region ?_
      refine AO.yld _ (Yld.move rfl) rfl rfl rfl ?_
      refine AO.yld _ (Yld.not rfl) rfl rfl rfl ?_
      refine AO.nil ?_
      refine AC.cond _ rfl (fun c47 => ?_) (fun c47 => ?_)
      · -- c47 True
        have hend : setL xs e = (setTo xs e xs.length).1 ++ [e] := by rw [setTo_end, if_neg (by simpa using c47)]
        refine AC.region ?_
        refine AO.yld _ (Yld.move rfl) rfl rfl rfl ?_
        refine AO.yld _ (Yld.loadAgg Try.isAgg62 Try.sizeOf62 rfl rfl rfl rfl) rfl rfl rfl ?_
        refine AO.buildSlice (rows := [[_, _]]) 2 Try.underlying26 ty62 rfl rfl rfl rfl rfl rfl rfl rfl rfl ?_
        refine AO.append 1 Try.underlying26 ty62 rfl rfl rfl rfl rfl rfl rfl (by intro r hr q hq; simp only [List.mem_cons, List.not_mem_nil, or_false] at hr; subst hr; simp only [encNV, List.mem_cons, List.not_mem_nil, or_false] at hq; rcases hq with rfl | rfl <;> rfl) (by have := setTo_len (xs := xs) (e := e) (k := xs.length); simp only [List.length_map, List.length_append, List.length_cons, List.length_nil]; omega) (by have := setTo_len (xs := xs) (e := e) (k := xs.length); simp only [List.length_map, List.length_append, List.length_cons, List.length_nil]; omega) rfl ?_
        refine AO.yld _ (Yld.assign rfl) rfl rfl rfl ?_
        refine AO.nil ?_
        refine AC.seq ?_
        refine AC.region ?_
        refine AO.yld _ (Yld.move rfl) rfl rfl rfl ?_
        refine AO.yld _ (Yld.assign rfl) rfl rfl rfl ?_
        refine AO.nil ?_
        refine FnE.ret () [1] [0] Try.results32 (RVs.cons (RV.tmp rfl) RVs.nil) rfl rfl rfl ?_ ?_ ⟨⟨_, rfl, ?_⟩, trivial⟩
        · -- holds
          trivial
        · -- value
          rfl
        · -- thing 0
          rw [hend]; first | rfl | (simp only [List.map_append, List.map_cons, List.map_nil]; rfl)
      · -- c47 False
        have hend : setL xs e = (setTo xs e xs.length).1 := by rw [setTo_end, if_pos (by simpa using c47)]
        refine AC.skip ?_
        refine AC.seq ?_
        refine AC.region ?_
        refine AO.yld _ (Yld.move rfl) rfl rfl rfl ?_
        refine AO.yld _ (Yld.assign rfl) rfl rfl rfl ?_
        refine AO.nil ?_
        refine FnE.ret () [1] [0] Try.results32 (RVs.cons (RV.tmp rfl) RVs.nil) rfl rfl rfl ?_ ?_ ⟨⟨_, rfl, ?_⟩, trivial⟩
        · -- holds
          trivial
        · -- value
          rfl
        · -- thing 0
          rw [hend]; first | rfl | (simp only [List.map_append, List.map_cons, List.map_nil]; rfl)

end Go.Proofs.Ytdlpkfihjfmgeaa
