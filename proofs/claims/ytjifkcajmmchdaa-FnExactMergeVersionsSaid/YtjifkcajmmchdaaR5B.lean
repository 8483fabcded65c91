/- Contracts of functions of the program, each by a walk of its text in the calculus V. -/
import Derived.Test.YtjifkcajmmchdaaR5A
set_option linter.all false
set_option linter.unusedSimpArgs false
set_option linter.unnecessarySimpa false
set_option linter.unusedVariables false
namespace Go.Proofs.Ytjifkcajmmchdaa
open Go Go.V

theorem spec_l27Get_c {xs : List NV} {n : List UInt8} (hn : xs.length ≤ 1048576) :
    Pure Try.prog 88 [.sl 2 (xs.map encNV), .v (str n)] (.agg (encNV (getZ xs n))) := by
  refine Pure.intro Try.func88 rfl Try.ntmps88 rfl rfl (fun w => ?_)
  refine AC.seq ?_
  refine AC.region ?_
  refine AO.alloc 0 Try.zeroValue66 rfl rfl rfl ?_
  refine AO.nil ?_
  refine AC.seq ?_
  refine AC.region ?_
  refine AO.yld _ (Yld.move rfl) rfl rfl rfl ?_
  refine AO.yld _ (Yld.move rfl) rfl rfl rfl ?_
  refine AO.yld _ (Yld.call rfl rfl Try.call54 rfl rfl rfl (spec_l27At_c (by first | assumption | omega)) rfl) rfl rfl rfl ?_
  refine AO.yld _ (Yld.assign rfl) rfl rfl rfl ?_
  refine AO.nil ?_
  refine AC.seq ?_
  refine AC.seq ?_
  refine AC.region ?_
  refine AO.yld _ (Yld.move rfl) rfl rfl rfl ?_
  refine AO.yld _ (Yld.int rfl rfl rfl) rfl rfl rfl ?_
  refine AO.nil ?_
  refine AC.cond _ rfl (fun c10 => ?_) (fun c10 => ?_)
  · -- c10 True
    have h0 : idxOf (nameIs n) xs < 0 := of_decide_eq_true c10
    have hf : xs.find? (nameIs n) = none := (idx_find xs n).elim (fun h1 => h1.2) (fun ⟨_, _, h1, _⟩ => by omega)
    refine AC.seq ?_
    refine AC.region ?_
    refine AO.yld _ (Yld.buildA (zs := [.v (str []), .v (.int .i64 0)]) bld66 rfl rfl) rfl rfl rfl ?_
    refine AO.store Try.sizeOf66 rfl rfl rfl rfl rfl rfl ?_
    refine AO.nil ?_
    refine Pure.ret Try.results88 (RVs.cons (RV.cell Try.isAgg66 Try.sizeOf66 rfl rfl rfl rfl) RVs.nil) rfl ?_
    first | (rw [getZ_hit hf]; rfl) | (rw [getZ_miss hf]; rfl) | (rw [getZ_hit hf]; done) | (rw [getZ_miss hf]; done)
  · -- c10 False
    have h0 : 0 ≤ idxOf (nameIs n) xs := by have h := c10; simp only [decide_eq_false_iff_not] at h; omega
    obtain ⟨kx, x, hix, hx, hxn, hf⟩ := (idx_find xs n).resolve_left (fun h1 => by have := h1.1; omega)
    have hrow := map_row (enc := encNV) hx
    rw [hix]
    refine AC.skip ?_
    refine AC.seq ?_
    refine AC.region ?_
    refine AO.yld _ (Yld.move rfl) rfl rfl rfl ?_
    refine AO.yld _ (Yld.move rfl) rfl rfl rfl ?_
    refine AO.yld _ (Yld.indexSl Try.underlying24 Try.sizeOf66 rfl rfl hrow rfl) rfl rfl rfl ?_
    refine AO.yld _ (Yld.loadAgg Try.isAgg66 Try.sizeOf66 rfl rfl rfl rfl) rfl rfl rfl ?_
    refine AO.store Try.sizeOf66 rfl rfl rfl rfl rfl rfl ?_
    refine AO.nil ?_
    refine Pure.ret Try.results88 (RVs.cons (RV.cell Try.isAgg66 Try.sizeOf66 rfl rfl rfl rfl) RVs.nil) rfl ?_
    first | (rw [getZ_hit hf]; rfl) | (rw [getZ_miss hf]; rfl) | (rw [getZ_hit hf]; done) | (rw [getZ_miss hf]; done)

theorem spec_l27Set_c {xs : List NV} {e : NV} (hr : Rises (namesOf xs)) (hn : xs.length ≤ 1048576) :
    FnE (α := Unit) Try.prog 53 [.p (.sl 2 (xs.map encNV)), .agg [.p (.v (str e.name)), .p (.v (.int .i64 e.val))]] [] [] (fun _ => True) (fun _ => .h 0) (fun _ => [(0, .vec 66 2 ((setL xs e).map encNV))]) := by
  refine FnE.intro Try.func53 rfl Try.ntmps53 rfl rfl (fun w0 F0 η φ w => ?_)
  refine AC.seq ?_
  refine AC.region ?_
  refine AO.box 0 rfl rfl rfl rfl rfl ?_
  refine AO.yld _ (Yld.assign rfl) rfl rfl rfl ?_
  refine AO.nil ?_
  refine AC.seq ?_
  refine AC.region ?_
  refine AO.buildSlice (rows := []) 1 Try.underlying24 ty66 rfl rfl rfl rfl rfl rfl rfl rfl rfl ?_
  refine AO.yld _ (Yld.assign rfl) rfl rfl rfl ?_
  refine AO.nil ?_
  refine AC.seq ?_
  refine AC.region ?_
  refine AO.yld _ (Yld.assign rfl) rfl rfl rfl ?_
  refine AO.nil ?_
  refine AC.seq ?_
  refine AC.seq ?_
  refine AC.region ?_
  refine AO.yld _ (Yld.assign rfl) rfl rfl rfl ?_
  refine AO.nil ?_
  refine AC.block ?_
  refine AC.loopC [(0, _), (3, _), (4, _)] [(0, _), (900, _)] (fun (k : Nat) => [(7, .p (.v (.int .i64 (k : Int)))), (6, .p (.v (.bool (setTo xs e k).2))), (5, .h 1)]) (fun (k : Nat) => [(1, .vec 66 2 ((setTo xs e k).1.map encNV))]) (fun (k : Nat) => k ≤ xs.length) (fun (k : Nat) => xs.length - k) 0 ⟨rfl, rfl, rfl, trivial⟩ ⟨rfl, rfl, trivial⟩ ⟨rfl, by rw [setTo_zero]; rfl, rfl, trivial⟩ ⟨rfl, trivial⟩ ?_ (fun k hJ => ?_)
  · exact Nat.zero_le _
  · -- round
    refine AC.seq ?_
    refine AC.seq ?_
    refine AC.region ?_
    refine AO.yld _ (Yld.move rfl) rfl rfl rfl ?_
    refine AO.yld _ (Yld.move rfl) rfl rfl rfl ?_
    refine AO.yld _ (Yld.len Try.underlying24 rfl rfl) rfl rfl rfl ?_
    refine AO.yld _ (Yld.int rfl rfl rfl) rfl rfl rfl ?_
    refine AO.nil ?_
    refine AC.cond _ rfl (fun c12 => ?_) (fun c12 => ?_)
    · -- c12 True
      have hk := lt_of_decM c12
      obtain ⟨x, hx⟩ := get_some hk
      have hrow := map_row (enc := encNV) hx
      refine AC.skip ?_
      refine AC.seq ?_
      refine AC.block ?_
      refine AC.seq ?_
      refine AC.seq ?_
      refine AC.draw (by kernel_rfl) (by kernel_rfl) ?_
      refine AO.yld _ (Yld.move rfl) rfl rfl rfl ?_
      refine AO.yld _ (Yld.not rfl) rfl rfl rfl ?_
      refine AO.yld _ (Yld.move rfl) rfl rfl rfl ?_
      refine AO.splitAt 17 _ rfl (fun s17 => ?_) (fun s17 => ?_)
      · -- s17 True
        have hd : (setTo xs e k).2 = false := by simpa using s17
        refine AO.yldG _ (Yld.move rfl) rfl rfl rfl rfl rfl ?_
        refine AO.yldG _ (Yld.move rfl) rfl rfl rfl rfl rfl ?_
        refine AO.yldG _ (Yld.indexSl Try.underlying24 Try.sizeOf66 rfl rfl hrow rfl) rfl rfl rfl rfl rfl ?_
        refine AO.yldG _ (Yld.fieldAddr Try.underlying66 rfl rfl Try.sizeOf9 rfl rfl rfl) rfl rfl rfl rfl rfl ?_
        refine AO.yldG _ (Yld.load Try.isAgg9 rfl rfl) rfl rfl rfl rfl rfl ?_
        refine AO.yldG _ (Yld.fieldAddr Try.underlying66 rfl rfl Try.sizeOf9 rfl rfl rfl) rfl rfl rfl rfl rfl ?_
        refine AO.yldG _ (Yld.load Try.isAgg9 rfl rfl) rfl rfl rfl rfl rfl ?_
        refine AO.yldG _ (Yld.cmpStr rfl rfl rfl) rfl rfl rfl rfl rfl ?_
        refine AO.yld _ (Yld.pickT rfl rfl) rfl rfl rfl ?_
        refine AO.nil ?_
        refine AC.cond _ rfl (fun c26 => ?_) (fun c26 => ?_)
        · -- c26 True
          have hmid : midSet xs e k x = ((setTo xs e k).1 ++ [e], true) := mid_yes hd (by simpa using c26)
          refine AC.seq ?_
          refine AC.region ?_
          refine AO.yld _ (Yld.move rfl) rfl rfl rfl ?_
          refine AO.yld _ (Yld.loadAgg Try.isAgg66 Try.sizeOf66 rfl rfl rfl rfl) rfl rfl rfl ?_
          refine AO.buildSlice (rows := [[_, _]]) 2 Try.underlying24 ty66 rfl rfl rfl rfl rfl rfl rfl rfl rfl ?_
          refine AO.append 1 Try.underlying24 ty66 rfl rfl rfl rfl rfl rfl rfl (by intro r hr q hq; simp only [List.mem_cons, List.not_mem_nil, or_false] at hr; subst hr; simp only [encNV, List.mem_cons, List.not_mem_nil, or_false] at hq; rcases hq with rfl | rfl <;> rfl) (by have := setTo_len (xs := xs) (e := e) (k := k); simp only [List.length_map, List.length_append, List.length_cons, List.length_nil]; omega) (by have := setTo_len (xs := xs) (e := e) (k := k); simp only [List.length_map, List.length_append, List.length_cons, List.length_nil]; omega) rfl ?_
          refine AO.yld _ (Yld.assign rfl) rfl rfl rfl ?_
          refine AO.nil ?_
          refine AC.region ?_
          refine AO.yld _ (Yld.assign rfl) rfl rfl rfl ?_
          refine AO.nil ?_
          refine AC.seq ?_
          refine AC.draw (by kernel_rfl) (by kernel_rfl) ?_
          refine AO.yld _ (Yld.move rfl) rfl rfl rfl ?_
          refine AO.yld _ (Yld.move rfl) rfl rfl rfl ?_
          refine AO.yld _ (Yld.indexSl Try.underlying24 Try.sizeOf66 rfl rfl hrow rfl) rfl rfl rfl ?_
          refine AO.yld _ (Yld.fieldAddr Try.underlying66 rfl rfl Try.sizeOf9 rfl rfl rfl) rfl rfl rfl ?_
          refine AO.yld _ (Yld.load Try.isAgg9 rfl rfl) rfl rfl rfl ?_
          refine AO.yld _ (Yld.fieldAddr Try.underlying66 rfl rfl Try.sizeOf9 rfl rfl rfl) rfl rfl rfl ?_
          refine AO.yld _ (Yld.load Try.isAgg9 rfl rfl) rfl rfl rfl ?_
          refine AO.yld _ (Yld.cmpStr rfl rfl rfl) rfl rfl rfl ?_
          refine AO.nil ?_
          refine AC.cond _ rfl (fun c38 => ?_) (fun c38 => ?_)
          · -- c38 True
            have hst : setTo xs e (k + 1) = ((midSet xs e k x).1 ++ [x], (midSet xs e k x).2) := by rw [setTo_succ hr hx, if_pos (by simpa using c38)]
            rw [hmid] at hst
            refine AC.region ?_
            refine AO.yld _ (Yld.move rfl) rfl rfl rfl ?_
            refine AO.yld _ (Yld.move rfl) rfl rfl rfl ?_
            refine AO.yld _ (Yld.move rfl) rfl rfl rfl ?_
            refine AO.yld _ (Yld.indexSl Try.underlying24 Try.sizeOf66 rfl rfl hrow rfl) rfl rfl rfl ?_
            refine AO.yld _ (Yld.loadAgg Try.isAgg66 Try.sizeOf66 rfl rfl rfl rfl) rfl rfl rfl ?_
            refine AO.buildSlice (rows := [[_, _]]) 3 Try.underlying24 ty66 rfl rfl rfl rfl rfl rfl rfl rfl rfl ?_
            refine AO.append 1 Try.underlying24 ty66 rfl rfl rfl rfl rfl rfl rfl (by intro r hr q hq; simp only [List.mem_cons, List.not_mem_nil, or_false] at hr; subst hr; simp only [encNV, List.mem_cons, List.not_mem_nil, or_false] at hq; rcases hq with rfl | rfl <;> rfl) (by have := setTo_len (xs := xs) (e := e) (k := k); simp only [List.length_map, List.length_append, List.length_cons, List.length_nil]; omega) (by have := setTo_len (xs := xs) (e := e) (k := k); simp only [List.length_map, List.length_append, List.length_cons, List.length_nil]; omega) rfl ?_
            refine AO.yld _ (Yld.assign rfl) rfl rfl rfl ?_
            refine AO.nil ?_
            refine AC.mark ?_
            refine AC.region ?_
            refine AO.yld _ (Yld.move rfl) rfl rfl rfl ?_
            refine AO.yld _ (Yld.add rfl rfl (by omega) (by omega)) rfl rfl rfl ?_
            refine AO.yld _ (Yld.assign rfl) rfl rfl rfl ?_
            refine AO.nil ?_
            refine AC.back ⟨k + 1, ?_, ?_, ⟨?_, ?_, ?_, trivial⟩, ⟨?_, trivial⟩, ⟨rfl, rfl, rfl, trivial⟩, ⟨rfl, rfl, trivial⟩⟩
            · exact hk
            · omega
            · rfl
            · rw [hst]; rfl
            · rfl
            · rw [hst]; first | rfl | (simp only [List.map_append, List.map_cons, List.map_nil]; rfl)
          · -- c38 False
            have hst : setTo xs e (k + 1) = midSet xs e k x := by rw [setTo_succ hr hx, if_neg (by simpa using c38)]
            rw [hmid] at hst
            refine AC.skip ?_
            refine AC.mark ?_
            refine AC.region ?_
            refine AO.yld _ (Yld.move rfl) rfl rfl rfl ?_
            refine AO.yld _ (Yld.add rfl rfl (by omega) (by omega)) rfl rfl rfl ?_
            refine AO.yld _ (Yld.assign rfl) rfl rfl rfl ?_
            refine AO.nil ?_
            refine AC.back ⟨k + 1, ?_, ?_, ⟨?_, ?_, ?_, trivial⟩, ⟨?_, trivial⟩, ⟨rfl, rfl, rfl, trivial⟩, ⟨rfl, rfl, trivial⟩⟩
            · exact hk
            · omega
            · rfl
            · rw [hst]; rfl
            · rfl
            · rw [hst]; first | rfl | (simp only [List.map_append, List.map_cons, List.map_nil]; rfl)
        · -- c26 False
          have hmid : midSet xs e k x = setTo xs e k := mid_no2 (by simpa using c26)
          refine AC.skip ?_
          refine AC.seq ?_
          refine AC.draw (by kernel_rfl) (by kernel_rfl) ?_
          refine AO.yld _ (Yld.move rfl) rfl rfl rfl ?_
          refine AO.yld _ (Yld.move rfl) rfl rfl rfl ?_
          refine AO.yld _ (Yld.indexSl Try.underlying24 Try.sizeOf66 rfl rfl hrow rfl) rfl rfl rfl ?_
          refine AO.yld _ (Yld.fieldAddr Try.underlying66 rfl rfl Try.sizeOf9 rfl rfl rfl) rfl rfl rfl ?_
          refine AO.yld _ (Yld.load Try.isAgg9 rfl rfl) rfl rfl rfl ?_
          refine AO.yld _ (Yld.fieldAddr Try.underlying66 rfl rfl Try.sizeOf9 rfl rfl rfl) rfl rfl rfl ?_
          refine AO.yld _ (Yld.load Try.isAgg9 rfl rfl) rfl rfl rfl ?_
          refine AO.yld _ (Yld.cmpStr rfl rfl rfl) rfl rfl rfl ?_
          refine AO.nil ?_
          refine AC.cond _ rfl (fun c38 => ?_) (fun c38 => ?_)
          · -- c38 True
            have hst : setTo xs e (k + 1) = ((midSet xs e k x).1 ++ [x], (midSet xs e k x).2) := by rw [setTo_succ hr hx, if_pos (by simpa using c38)]
            rw [hmid] at hst
            refine AC.region ?_
            refine AO.yld _ (Yld.move rfl) rfl rfl rfl ?_
            refine AO.yld _ (Yld.move rfl) rfl rfl rfl ?_
            refine AO.yld _ (Yld.move rfl) rfl rfl rfl ?_
            refine AO.yld _ (Yld.indexSl Try.underlying24 Try.sizeOf66 rfl rfl hrow rfl) rfl rfl rfl ?_
            refine AO.yld _ (Yld.loadAgg Try.isAgg66 Try.sizeOf66 rfl rfl rfl rfl) rfl rfl rfl ?_
            refine AO.buildSlice (rows := [[_, _]]) 2 Try.underlying24 ty66 rfl rfl rfl rfl rfl rfl rfl rfl rfl ?_
            refine AO.append 1 Try.underlying24 ty66 rfl rfl rfl rfl rfl rfl rfl (by intro r hr q hq; simp only [List.mem_cons, List.not_mem_nil, or_false] at hr; subst hr; simp only [encNV, List.mem_cons, List.not_mem_nil, or_false] at hq; rcases hq with rfl | rfl <;> rfl) (by have := setTo_len (xs := xs) (e := e) (k := k); simp only [List.length_map, List.length_append, List.length_cons, List.length_nil]; omega) (by have := setTo_len (xs := xs) (e := e) (k := k); simp only [List.length_map, List.length_append, List.length_cons, List.length_nil]; omega) rfl ?_
            refine AO.yld _ (Yld.assign rfl) rfl rfl rfl ?_
            refine AO.nil ?_
            refine AC.mark ?_
            refine AC.region ?_
            refine AO.yld _ (Yld.move rfl) rfl rfl rfl ?_
            refine AO.yld _ (Yld.add rfl rfl (by omega) (by omega)) rfl rfl rfl ?_
            refine AO.yld _ (Yld.assign rfl) rfl rfl rfl ?_
            refine AO.nil ?_
            refine AC.back ⟨k + 1, ?_, ?_, ⟨?_, ?_, ?_, trivial⟩, ⟨?_, trivial⟩, ⟨rfl, rfl, rfl, trivial⟩, ⟨rfl, rfl, trivial⟩⟩
            · exact hk
            · omega
            · rfl
            · rw [hst]; rfl
            · rfl
            · rw [hst]; first | rfl | (simp only [List.map_append, List.map_cons, List.map_nil]; rfl)
          · -- c38 False
            have hst : setTo xs e (k + 1) = midSet xs e k x := by rw [setTo_succ hr hx, if_neg (by simpa using c38)]
            rw [hmid] at hst
            refine AC.skip ?_
            refine AC.mark ?_
            refine AC.region ?_
            refine AO.yld _ (Yld.move rfl) rfl rfl rfl ?_
            refine AO.yld _ (Yld.add rfl rfl (by omega) (by omega)) rfl rfl rfl ?_
            refine AO.yld _ (Yld.assign rfl) rfl rfl rfl ?_
            refine AO.nil ?_
            refine AC.back ⟨k + 1, ?_, ?_, ⟨?_, ?_, ?_, trivial⟩, ⟨?_, trivial⟩, ⟨rfl, rfl, rfl, trivial⟩, ⟨rfl, rfl, trivial⟩⟩
            · exact hk
            · omega
            · rfl
            · rw [hst]; rfl
            · rfl
            · rw [hst]; first | rfl | (simp only [List.map_append, List.map_cons, List.map_nil]; rfl)
      · -- s17 False
        have hmid : midSet xs e k x = setTo xs e k := mid_no1 (by simpa using s17)
        refine AO.skipT rfl rfl rfl rfl rfl ?_
        refine AO.skipT rfl rfl rfl rfl rfl ?_
        refine AO.skipT rfl rfl rfl rfl rfl ?_
        refine AO.skipT rfl rfl rfl rfl rfl ?_
        refine AO.skipT rfl rfl rfl rfl rfl ?_
        refine AO.skipT rfl rfl rfl rfl rfl ?_
        refine AO.skipT rfl rfl rfl rfl rfl ?_
        refine AO.skipT rfl rfl rfl rfl rfl ?_
        refine AO.yld _ (Yld.pickF rfl rfl) rfl rfl rfl ?_
        refine AO.nil ?_
        refine AC.condF rfl ?_
        refine AC.skip ?_
        refine AC.seq ?_
        refine AC.draw (by kernel_rfl) (by kernel_rfl) ?_
        refine AO.yld _ (Yld.move rfl) rfl rfl rfl ?_
        refine AO.yld _ (Yld.move rfl) rfl rfl rfl ?_
        refine AO.yld _ (Yld.indexSl Try.underlying24 Try.sizeOf66 rfl rfl hrow rfl) rfl rfl rfl ?_
        refine AO.yld _ (Yld.fieldAddr Try.underlying66 rfl rfl Try.sizeOf9 rfl rfl rfl) rfl rfl rfl ?_
        refine AO.yld _ (Yld.load Try.isAgg9 rfl rfl) rfl rfl rfl ?_
        refine AO.yld _ (Yld.fieldAddr Try.underlying66 rfl rfl Try.sizeOf9 rfl rfl rfl) rfl rfl rfl ?_
        refine AO.yld _ (Yld.load Try.isAgg9 rfl rfl) rfl rfl rfl ?_
        refine AO.yld _ (Yld.cmpStr rfl rfl rfl) rfl rfl rfl ?_
        refine AO.nil ?_
        refine AC.cond _ rfl (fun c38 => ?_) (fun c38 => ?_)
        · -- c38 True
          have hst : setTo xs e (k + 1) = ((midSet xs e k x).1 ++ [x], (midSet xs e k x).2) := by rw [setTo_succ hr hx, if_pos (by simpa using c38)]
          rw [hmid] at hst
          refine AC.region ?_
          refine AO.yld _ (Yld.move rfl) rfl rfl rfl ?_
          refine AO.yld _ (Yld.move rfl) rfl rfl rfl ?_
          refine AO.yld _ (Yld.move rfl) rfl rfl rfl ?_
          refine AO.yld _ (Yld.indexSl Try.underlying24 Try.sizeOf66 rfl rfl hrow rfl) rfl rfl rfl ?_
          refine AO.yld _ (Yld.loadAgg Try.isAgg66 Try.sizeOf66 rfl rfl rfl rfl) rfl rfl rfl ?_
          refine AO.buildSlice (rows := [[_, _]]) 2 Try.underlying24 ty66 rfl rfl rfl rfl rfl rfl rfl rfl rfl ?_
          refine AO.append 1 Try.underlying24 ty66 rfl rfl rfl rfl rfl rfl rfl (by intro r hr q hq; simp only [List.mem_cons, List.not_mem_nil, or_false] at hr; subst hr; simp only [encNV, List.mem_cons, List.not_mem_nil, or_false] at hq; rcases hq with rfl | rfl <;> rfl) (by have := setTo_len (xs := xs) (e := e) (k := k); simp only [List.length_map, List.length_append, List.length_cons, List.length_nil]; omega) (by have := setTo_len (xs := xs) (e := e) (k := k); simp only [List.length_map, List.length_append, List.length_cons, List.length_nil]; omega) rfl ?_
          refine AO.yld _ (Yld.assign rfl) rfl rfl rfl ?_
          refine AO.nil ?_
          refine AC.mark ?_
          refine AC.region ?_
          refine AO.yld _ (Yld.move rfl) rfl rfl rfl ?_
          refine AO.yld _ (Yld.add rfl rfl (by omega) (by omega)) rfl rfl rfl ?_
          refine AO.yld _ (Yld.assign rfl) rfl rfl rfl ?_
          refine AO.nil ?_
          refine AC.back ⟨k + 1, ?_, ?_, ⟨?_, ?_, ?_, trivial⟩, ⟨?_, trivial⟩, ⟨rfl, rfl, rfl, trivial⟩, ⟨rfl, rfl, trivial⟩⟩
          · exact hk
          · omega
          · rfl
          · rw [hst]; rfl
          · rfl
          · rw [hst]; first | rfl | (simp only [List.map_append, List.map_cons, List.map_nil]; rfl)
        · -- c38 False
          have hst : setTo xs e (k + 1) = midSet xs e k x := by rw [setTo_succ hr hx, if_neg (by simpa using c38)]
          rw [hmid] at hst
          refine AC.skip ?_
          refine AC.mark ?_
          refine AC.region ?_
          refine AO.yld _ (Yld.move rfl) rfl rfl rfl ?_
          refine AO.yld _ (Yld.add rfl rfl (by omega) (by omega)) rfl rfl rfl ?_
          refine AO.yld _ (Yld.assign rfl) rfl rfl rfl ?_
          refine AO.nil ?_
          refine AC.back ⟨k + 1, ?_, ?_, ⟨?_, ?_, ?_, trivial⟩, ⟨?_, trivial⟩, ⟨rfl, rfl, rfl, trivial⟩, ⟨rfl, rfl, trivial⟩⟩
          · exact hk
          · omega
          · rfl
          · rw [hst]; rfl
          · rfl
          · rw [hst]; first | rfl | (simp only [List.map_append, List.map_cons, List.map_nil]; rfl)
    · -- c12 False
      obtain rfl : k = xs.length := by have := ge_of_decM c12; omega
      refine AC.exit rfl ?_
      refine AC.seq ?_
      refine AC.seq ?_
      refine AC.region ?_
      refine AO.yld _ (Yld.move rfl) rfl rfl rfl ?_
      refine AO.yld _ (Yld.not rfl) rfl rfl rfl ?_
      refine AO.nil ?_
      refine AC.cond _ rfl (fun c47 => ?_) (fun c47 => ?_)
      · -- c47 True
        have hend : setL xs e = (setTo xs e xs.length).1 ++ [e] := by rw [setTo_end, if_neg (by simpa using c47)]
        refine AC.region ?_
        refine AO.yld _ (Yld.move rfl) rfl rfl rfl ?_
        refine AO.yld _ (Yld.loadAgg Try.isAgg66 Try.sizeOf66 rfl rfl rfl rfl) rfl rfl rfl ?_
        refine AO.buildSlice (rows := [[_, _]]) 2 Try.underlying24 ty66 rfl rfl rfl rfl rfl rfl rfl rfl rfl ?_
        refine AO.append 1 Try.underlying24 ty66 rfl rfl rfl rfl rfl rfl rfl (by intro r hr q hq; simp only [List.mem_cons, List.not_mem_nil, or_false] at hr; subst hr; simp only [encNV, List.mem_cons, List.not_mem_nil, or_false] at hq; rcases hq with rfl | rfl <;> rfl) (by have := setTo_len (xs := xs) (e := e) (k := xs.length); simp only [List.length_map, List.length_append, List.length_cons, List.length_nil]; omega) (by have := setTo_len (xs := xs) (e := e) (k := xs.length); simp only [List.length_map, List.length_append, List.length_cons, List.length_nil]; omega) rfl ?_
        refine AO.yld _ (Yld.assign rfl) rfl rfl rfl ?_
        refine AO.nil ?_
        refine AC.seq ?_
        refine AC.region ?_
        refine AO.yld _ (Yld.move rfl) rfl rfl rfl ?_
        refine AO.yld _ (Yld.assign rfl) rfl rfl rfl ?_
        refine AO.nil ?_
        refine FnE.ret () [1] [0] Try.results53 (RVs.cons (RV.tmp rfl) RVs.nil) rfl rfl rfl ?_ ?_ ⟨⟨_, rfl, ?_⟩, trivial⟩
        · -- holds
          trivial
        · -- value
          rfl
        · -- thing 0
          rw [hend]; first | rfl | (simp only [List.map_append, List.map_cons, List.map_nil]; rfl)
      · -- c47 False
        have hend : setL xs e = (setTo xs e xs.length).1 := by rw [setTo_end, if_pos (by simpa using c47)]
        refine AC.skip ?_
        refine AC.seq ?_
        refine AC.region ?_
        refine AO.yld _ (Yld.move rfl) rfl rfl rfl ?_
        refine AO.yld _ (Yld.assign rfl) rfl rfl rfl ?_
        refine AO.nil ?_
        refine FnE.ret () [1] [0] Try.results53 (RVs.cons (RV.tmp rfl) RVs.nil) rfl rfl rfl ?_ ?_ ⟨⟨_, rfl, ?_⟩, trivial⟩
        · -- holds
          trivial
        · -- value
          rfl
        · -- thing 0
          rw [hend]; first | rfl | (simp only [List.map_append, List.map_cons, List.map_nil]; rfl)

theorem spec_l27Names_c {base a b : List NV} (hb : base.length ≤ 1000) (ha : a.length ≤ 1000) (hb2 : b.length ≤ 1000) :
    FnE (α := Unit) Try.prog 87 [.p (.sl 2 (base.map encNV)), .p (.sl 2 (a.map encNV)), .p (.sl 2 (b.map encNV))] [] [] (fun _ => True) (fun _ => .h 0) (fun _ => [(0, .vec 9 1 ((names3 base a b).map Go.V.encS))]) := by
  have q0 := insAll_len0 (xs := base)
  have q1 := insAll_len (acc := insAll [] base) (xs := a)
  have q2 := insAll_len (acc := insAll (insAll [] base) a) (xs := b)
  refine FnE.intro Try.func87 rfl Try.ntmps87 rfl rfl (fun w0 F0 η φ w => ?_)
  refine AC.seq ?_
  refine AC.region ?_
  refine AO.yld _ (Yld.assign rfl) rfl rfl rfl ?_
  refine AO.nil ?_
  refine AC.seq ?_
  refine AC.region ?_
  refine AO.buildSlice (rows := []) 0 Try.underlying24 ty66 rfl rfl rfl rfl rfl rfl rfl rfl rfl ?_
  refine AO.yld _ (Yld.assign rfl) rfl rfl rfl ?_
  refine AO.nil ?_
  refine AC.seq ?_
  refine AC.seq ?_
  refine AC.region ?_
  refine AO.yld _ (Yld.assign rfl) rfl rfl rfl ?_
  refine AO.nil ?_
  refine AC.block ?_
  refine AC.loopC [(0, _), (1, _), (2, _), (6, _)] [(900, _)] (fun (k : Nat) => [(8, .p (.v (.int .i64 (k : Int)))), (7, .h 0)]) (fun (k : Nat) => [(0, .vec 66 2 ((insAll [] (base.take k)).map encNV))]) (fun (k : Nat) => k ≤ base.length) (fun (k : Nat) => base.length - k) 0 ⟨rfl, rfl, rfl, rfl, trivial⟩ ⟨rfl, trivial⟩ ⟨rfl, rfl, trivial⟩ ⟨rfl, trivial⟩ ?_ (fun k hJ => ?_)
  · exact Nat.zero_le _
  · -- round
    refine AC.seq ?_
    refine AC.seq ?_
    refine AC.region ?_
    refine AO.yld _ (Yld.move rfl) rfl rfl rfl ?_
    refine AO.yld _ (Yld.move rfl) rfl rfl rfl ?_
    refine AO.yld _ (Yld.len Try.underlying24 rfl rfl) rfl rfl rfl ?_
    refine AO.yld _ (Yld.int rfl rfl rfl) rfl rfl rfl ?_
    refine AO.nil ?_
    refine AC.cond _ rfl (fun c17 => ?_) (fun c17 => ?_)
    · -- c17 True
      have hk := lt_of_decM c17
      obtain ⟨x, hx⟩ := get_some hk
      have hrow := map_row (enc := encNV) hx
      have hl := insAll_len (acc := []) (xs := base.take k)
      have hl2 : (base.take k).length ≤ k := by simp; omega
      try simp only [List.length_nil] at hl
      refine AC.skip ?_
      refine AC.seq ?_
      refine AC.block ?_
      refine AC.region ?_
      refine AO.yld _ (Yld.move rfl) rfl rfl rfl ?_
      refine AO.yld _ (Yld.move rfl) rfl rfl rfl ?_
      refine AO.yld _ (Yld.move rfl) rfl rfl rfl ?_
      refine AO.yld _ (Yld.indexSl Try.underlying24 Try.sizeOf66 rfl rfl hrow rfl) rfl rfl rfl ?_
      refine AO.yld _ (Yld.loadAgg Try.isAgg66 Try.sizeOf66 rfl rfl rfl rfl) rfl rfl rfl ?_
      refine AO.freeze 0 rfl ?_
      refine AO.callW (wantedN rfl) [0] [] [0] rfl rfl Try.call53 rfl (spec_l27Set_c (xs := insAll [] (base.take k)) (e := x) (insAll_rises rises_nil) (by omega)) (.flat (.view rfl rfl (.own rfl .nil)) (fun _ => by simp [AV.Flat, AV.FlatL, PV.Flat, PV.FlatL]) (fun _ => ⟨flat_map flatNV _, trivial⟩)) rfl (fun _ => rfl) trivial rfl (fun _ => rfl) (fun _ => rfl) (fun _ _ => ?_)
      refine AO.yld _ (Yld.assign rfl) rfl rfl rfl ?_
      refine AO.nil ?_
      refine AC.mark ?_
      refine AC.region ?_
      refine AO.yld _ (Yld.move rfl) rfl rfl rfl ?_
      refine AO.yld _ (Yld.add rfl rfl (by omega) (by omega)) rfl rfl rfl ?_
      refine AO.yld _ (Yld.assign rfl) rfl rfl rfl ?_
      refine AO.nil ?_
      refine AC.back ⟨k + 1, ?_, ?_, ⟨?_, ?_, trivial⟩, ⟨?_, trivial⟩, ⟨rfl, rfl, rfl, rfl, trivial⟩, ⟨rfl, trivial⟩⟩
      · exact hk
      · omega
      · rfl
      · rfl
      · rw [insAll_snoc hx]; rfl
    · -- c17 False
      obtain rfl : k = base.length := by have := ge_of_decM c17; omega
      rw [List.take_of_length_le (Nat.le_refl _)]
      refine AC.exit rfl ?_
      refine AC.seq ?_
      refine AC.seq ?_
      refine AC.region ?_
      refine AO.yld _ (Yld.assign rfl) rfl rfl rfl ?_
      refine AO.nil ?_
      refine AC.block ?_
      refine AC.loopC [(1, _), (2, _), (6, _)] [(900, _)] (fun (k : Nat) => [(9, .p (.v (.int .i64 (k : Int)))), (7, .h 0)]) (fun (k : Nat) => [(0, .vec 66 2 ((insAll (insAll [] base) (a.take k)).map encNV))]) (fun (k : Nat) => k ≤ a.length) (fun (k : Nat) => a.length - k) 0 ⟨rfl, rfl, rfl, trivial⟩ ⟨rfl, trivial⟩ ⟨rfl, rfl, trivial⟩ ⟨rfl, trivial⟩ ?_ (fun k hJ => ?_)
      · exact Nat.zero_le _
      · -- round
        refine AC.seq ?_
        refine AC.seq ?_
        refine AC.region ?_
        refine AO.yld _ (Yld.move rfl) rfl rfl rfl ?_
        refine AO.yld _ (Yld.move rfl) rfl rfl rfl ?_
        refine AO.yld _ (Yld.len Try.underlying24 rfl rfl) rfl rfl rfl ?_
        refine AO.yld _ (Yld.int rfl rfl rfl) rfl rfl rfl ?_
        refine AO.nil ?_
        refine AC.cond _ rfl (fun c29 => ?_) (fun c29 => ?_)
        · -- c29 True
          have hk := lt_of_decM c29
          obtain ⟨x, hx⟩ := get_some hk
          have hrow := map_row (enc := encNV) hx
          have hl := insAll_len (acc := (insAll [] base)) (xs := a.take k)
          have hl2 : (a.take k).length ≤ k := by simp; omega
          try simp only [List.length_nil] at hl
          refine AC.skip ?_
          refine AC.seq ?_
          refine AC.block ?_
          refine AC.region ?_
          refine AO.yld _ (Yld.move rfl) rfl rfl rfl ?_
          refine AO.yld _ (Yld.move rfl) rfl rfl rfl ?_
          refine AO.yld _ (Yld.move rfl) rfl rfl rfl ?_
          refine AO.yld _ (Yld.indexSl Try.underlying24 Try.sizeOf66 rfl rfl hrow rfl) rfl rfl rfl ?_
          refine AO.yld _ (Yld.loadAgg Try.isAgg66 Try.sizeOf66 rfl rfl rfl rfl) rfl rfl rfl ?_
          refine AO.freeze 0 rfl ?_
          refine AO.callW (wantedN rfl) [0] [] [0] rfl rfl Try.call53 rfl (spec_l27Set_c (xs := insAll (insAll [] base) (a.take k)) (e := x) (insAll_rises (insAll_rises rises_nil)) (by omega)) (.flat (.view rfl rfl (.own rfl .nil)) (fun _ => by simp [AV.Flat, AV.FlatL, PV.Flat, PV.FlatL]) (fun _ => ⟨flat_map flatNV _, trivial⟩)) rfl (fun _ => rfl) trivial rfl (fun _ => rfl) (fun _ => rfl) (fun _ _ => ?_)
          refine AO.yld _ (Yld.assign rfl) rfl rfl rfl ?_
          refine AO.nil ?_
          refine AC.mark ?_
          refine AC.region ?_
          refine AO.yld _ (Yld.move rfl) rfl rfl rfl ?_
          refine AO.yld _ (Yld.add rfl rfl (by omega) (by omega)) rfl rfl rfl ?_
          refine AO.yld _ (Yld.assign rfl) rfl rfl rfl ?_
          refine AO.nil ?_
          refine AC.back ⟨k + 1, ?_, ?_, ⟨?_, ?_, trivial⟩, ⟨?_, trivial⟩, ⟨rfl, rfl, rfl, trivial⟩, ⟨rfl, trivial⟩⟩
          · exact hk
          · omega
          · rfl
          · rfl
          · rw [insAll_snoc hx]; rfl
        · -- c29 False
          obtain rfl : k = a.length := by have := ge_of_decM c29; omega
          rw [List.take_of_length_le (Nat.le_refl _)]
          refine AC.exit rfl ?_
          refine AC.seq ?_
          refine AC.seq ?_
          refine AC.region ?_
          refine AO.yld _ (Yld.assign rfl) rfl rfl rfl ?_
          refine AO.nil ?_
          refine AC.block ?_
          refine AC.loopC [(2, _), (6, _)] [(900, _)] (fun (k : Nat) => [(10, .p (.v (.int .i64 (k : Int)))), (7, .h 0)]) (fun (k : Nat) => [(0, .vec 66 2 ((insAll (insAll (insAll [] base) a) (b.take k)).map encNV))]) (fun (k : Nat) => k ≤ b.length) (fun (k : Nat) => b.length - k) 0 ⟨rfl, rfl, trivial⟩ ⟨rfl, trivial⟩ ⟨rfl, rfl, trivial⟩ ⟨rfl, trivial⟩ ?_ (fun k hJ => ?_)
          · exact Nat.zero_le _
          · -- round
            refine AC.seq ?_
            refine AC.seq ?_
            refine AC.region ?_
            refine AO.yld _ (Yld.move rfl) rfl rfl rfl ?_
            refine AO.yld _ (Yld.move rfl) rfl rfl rfl ?_
            refine AO.yld _ (Yld.len Try.underlying24 rfl rfl) rfl rfl rfl ?_
            refine AO.yld _ (Yld.int rfl rfl rfl) rfl rfl rfl ?_
            refine AO.nil ?_
            refine AC.cond _ rfl (fun c41 => ?_) (fun c41 => ?_)
            · -- c41 True
              have hk := lt_of_decM c41
              obtain ⟨x, hx⟩ := get_some hk
              have hrow := map_row (enc := encNV) hx
              have hl := insAll_len (acc := (insAll (insAll [] base) a)) (xs := b.take k)
              have hl2 : (b.take k).length ≤ k := by simp; omega
              try simp only [List.length_nil] at hl
              refine AC.skip ?_
              refine AC.seq ?_
              refine AC.block ?_
              refine AC.region ?_
              refine AO.yld _ (Yld.move rfl) rfl rfl rfl ?_
              refine AO.yld _ (Yld.move rfl) rfl rfl rfl ?_
              refine AO.yld _ (Yld.move rfl) rfl rfl rfl ?_
              refine AO.yld _ (Yld.indexSl Try.underlying24 Try.sizeOf66 rfl rfl hrow rfl) rfl rfl rfl ?_
              refine AO.yld _ (Yld.loadAgg Try.isAgg66 Try.sizeOf66 rfl rfl rfl rfl) rfl rfl rfl ?_
              refine AO.freeze 0 rfl ?_
              refine AO.callW (wantedN rfl) [0] [] [0] rfl rfl Try.call53 rfl (spec_l27Set_c (xs := insAll (insAll (insAll [] base) a) (b.take k)) (e := x) (insAll_rises (insAll_rises (insAll_rises rises_nil))) (by omega)) (.flat (.view rfl rfl (.own rfl .nil)) (fun _ => by simp [AV.Flat, AV.FlatL, PV.Flat, PV.FlatL]) (fun _ => ⟨flat_map flatNV _, trivial⟩)) rfl (fun _ => rfl) trivial rfl (fun _ => rfl) (fun _ => rfl) (fun _ _ => ?_)
              refine AO.yld _ (Yld.assign rfl) rfl rfl rfl ?_
              refine AO.nil ?_
              refine AC.mark ?_
              refine AC.region ?_
              refine AO.yld _ (Yld.move rfl) rfl rfl rfl ?_
              refine AO.yld _ (Yld.add rfl rfl (by omega) (by omega)) rfl rfl rfl ?_
              refine AO.yld _ (Yld.assign rfl) rfl rfl rfl ?_
              refine AO.nil ?_
              refine AC.back ⟨k + 1, ?_, ?_, ⟨?_, ?_, trivial⟩, ⟨?_, trivial⟩, ⟨rfl, rfl, trivial⟩, ⟨rfl, trivial⟩⟩
              · exact hk
              · omega
              · rfl
              · rfl
              · rw [insAll_snoc hx]; rfl
            · -- c41 False
              obtain rfl : k = b.length := by have := ge_of_decM c41; omega
              rw [List.take_of_length_le (Nat.le_refl _)]
              refine AC.exit rfl ?_
              refine AC.seq ?_
              refine AC.region ?_
              refine AO.freeze 0 rfl ?_
              refine AO.buildSlice (rows := []) 1 Try.underlying31 ty9 rfl rfl rfl rfl rfl rfl rfl rfl rfl ?_
              refine AO.yld _ (Yld.assign rfl) rfl rfl rfl ?_
              refine AO.nil ?_
              refine AC.seq ?_
              refine AC.seq ?_
              refine AC.region ?_
              refine AO.yld _ (Yld.assign rfl) rfl rfl rfl ?_
              refine AO.nil ?_
              refine AC.block ?_
              refine AC.loopC [(6, _), (7, _)] [(900, _)] (fun (k : Nat) => [(12, .p (.v (.int .i64 (k : Int)))), (11, .h 1)]) (fun (k : Nat) => [(1, .vec 9 1 ((namesOf ((insAll (insAll (insAll [] base) a) b).take k)).map Go.V.encS))]) (fun (k : Nat) => k ≤ (insAll (insAll (insAll [] base) a) b).length) (fun (k : Nat) => (insAll (insAll (insAll [] base) a) b).length - k) 0 ⟨rfl, rfl, trivial⟩ ⟨rfl, trivial⟩ ⟨rfl, rfl, trivial⟩ ⟨rfl, trivial⟩ ?_ (fun k hJ => ?_)
              · exact Nat.zero_le _
              · -- round
                refine AC.seq ?_
                refine AC.seq ?_
                refine AC.region ?_
                refine AO.yld _ (Yld.move rfl) rfl rfl rfl ?_
                refine AO.yld _ (Yld.move rfl) rfl rfl rfl ?_
                refine AO.yld _ (Yld.len Try.underlying24 rfl rfl) rfl rfl rfl ?_
                refine AO.yld _ (Yld.int rfl rfl rfl) rfl rfl rfl ?_
                refine AO.nil ?_
                refine AC.cond _ rfl (fun c54 => ?_) (fun c54 => ?_)
                · -- c54 True
                  have hk := lt_of_decM c54
                  obtain ⟨x, hx⟩ := get_some hk
                  have hrow := map_row (enc := encNV) hx
                  refine AC.skip ?_
                  refine AC.seq ?_
                  refine AC.block ?_
                  refine AC.region ?_
                  refine AO.yld _ (Yld.move rfl) rfl rfl rfl ?_
                  refine AO.yld _ (Yld.move rfl) rfl rfl rfl ?_
                  refine AO.yld _ (Yld.move rfl) rfl rfl rfl ?_
                  refine AO.yld _ (Yld.indexSl Try.underlying24 Try.sizeOf66 rfl rfl hrow rfl) rfl rfl rfl ?_
                  refine AO.yld _ (Yld.fieldAddr Try.underlying66 rfl rfl Try.sizeOf9 rfl rfl rfl) rfl rfl rfl ?_
                  refine AO.yld _ (Yld.load Try.isAgg9 rfl rfl) rfl rfl rfl ?_
                  refine AO.buildSlice (rows := [[_]]) 2 Try.underlying31 ty9 rfl rfl rfl rfl rfl rfl rfl rfl rfl ?_
                  refine AO.append 1 Try.underlying31 ty9 rfl rfl rfl rfl rfl rfl rfl (by simp [pvOne, str]) (by simp only [namesOf, List.length_map, List.length_cons, List.length_nil, List.length_take]; omega) (by simp only [namesOf, List.length_map, List.length_cons, List.length_nil, List.length_take]; omega) rfl ?_
                  refine AO.yld _ (Yld.assign rfl) rfl rfl rfl ?_
                  refine AO.nil ?_
                  refine AC.mark ?_
                  refine AC.region ?_
                  refine AO.yld _ (Yld.move rfl) rfl rfl rfl ?_
                  refine AO.yld _ (Yld.add rfl rfl (by omega) (by omega)) rfl rfl rfl ?_
                  refine AO.yld _ (Yld.assign rfl) rfl rfl rfl ?_
                  refine AO.nil ?_
                  refine AC.back ⟨k + 1, ?_, ?_, ⟨?_, ?_, trivial⟩, ⟨?_, trivial⟩, ⟨rfl, rfl, trivial⟩, ⟨rfl, trivial⟩⟩
                  · exact hk
                  · omega
                  · rfl
                  · rfl
                  · rw [← names_snoc hx]; rfl
                · -- c54 False
                  obtain rfl : k = (insAll (insAll (insAll [] base) a) b).length := by have := ge_of_decM c54; omega
                  refine AC.exit rfl ?_
                  refine AC.seq ?_
                  refine AC.region ?_
                  refine AO.yld _ (Yld.move rfl) rfl rfl rfl ?_
                  refine AO.yld _ (Yld.assign rfl) rfl rfl rfl ?_
                  refine AO.nil ?_
                  refine FnE.ret () [1] [0] Try.results87 (RVs.cons (RV.tmp rfl) RVs.nil) rfl rfl rfl ?_ ?_ ⟨⟨_, rfl, ?_⟩, trivial⟩
                  · -- holds
                    trivial
                  · -- value
                    rfl
                  · -- thing 0
                    rw [← names3_ins, List.take_of_length_le (Nat.le_refl _)]; rfl

theorem spec_l27Conflicts_c {base a b : List NV} (hb : okState base = true) (ha : okState a = true) (hb2 : okState b = true) :
    FnE (α := Unit) Try.prog 50 [.p (.sl 2 (base.map encNV)), .p (.sl 2 (a.map encNV)), .p (.sl 2 (b.map encNV))] [] [] (fun _ => True) (fun _ => .h 0) (fun _ => [(0, .vec 9 1 ((conflL base a b).map Go.V.encS))]) := by
  have hl1 := state_len hb; have hl2 := state_len ha; have hl3 := state_len hb2
  have hN := names3_len base a b
  refine FnE.intro Try.func50 rfl Try.ntmps50 rfl rfl (fun w0 F0 η φ w => ?_)
  refine AC.seq ?_
  refine AC.region ?_
  refine AO.yld _ (Yld.assign rfl) rfl rfl rfl ?_
  refine AO.nil ?_
  refine AC.seq ?_
  refine AC.region ?_
  refine AO.yld _ (Yld.move rfl) rfl rfl rfl ?_
  refine AO.yld _ (Yld.move rfl) rfl rfl rfl ?_
  refine AO.yld _ (Yld.move rfl) rfl rfl rfl ?_
  refine AO.callW (wantedN rfl) [0] [] [0] rfl rfl Try.call87 rfl (spec_l27Names_c (by omega) (by omega) (by omega)) (.flat (.view rfl rfl (.view rfl rfl (.view rfl rfl .nil))) (fun _ => by simp [AV.Flat, AV.FlatL, PV.Flat, PV.FlatL]) (fun _ => ⟨flat_map flatS _, trivial⟩)) rfl (fun _ => rfl) trivial rfl (fun _ => rfl) (fun _ => rfl) (fun _ _ => ?_)
  refine AO.yld _ (Yld.assign rfl) rfl rfl rfl ?_
  refine AO.nil ?_
  refine AC.seq ?_
  refine AC.region ?_
  refine AO.freeze 0 rfl ?_
  refine AO.buildSlice (rows := []) 1 Try.underlying31 ty9 rfl rfl rfl rfl rfl rfl rfl rfl rfl ?_
  refine AO.yld _ (Yld.assign rfl) rfl rfl rfl ?_
  refine AO.nil ?_
  refine AC.seq ?_
  refine AC.seq ?_
  refine AC.region ?_
  refine AO.yld _ (Yld.assign rfl) rfl rfl rfl ?_
  refine AO.nil ?_
  refine AC.block ?_
  refine AC.loopC [(0, _), (1, _), (2, _), (6, _), (7, _)] [(900, _)] (fun (k : Nat) => [(9, .p (.v (.int .i64 (k : Int)))), (8, .h 1)]) (fun (k : Nat) => [(1, .vec 9 1 ((conflTo base a b k).map Go.V.encS))]) (fun (k : Nat) => k ≤ (names3 base a b).length) (fun (k : Nat) => (names3 base a b).length - k) 0 ⟨rfl, rfl, rfl, rfl, rfl, trivial⟩ ⟨rfl, trivial⟩ ⟨rfl, rfl, trivial⟩ ⟨rfl, trivial⟩ ?_ (fun k hJ => ?_)
  · exact Nat.zero_le _
  · -- round
    refine AC.seq ?_
    refine AC.seq ?_
    refine AC.region ?_
    refine AO.yld _ (Yld.move rfl) rfl rfl rfl ?_
    refine AO.yld _ (Yld.move rfl) rfl rfl rfl ?_
    refine AO.yld _ (Yld.len Try.underlying31 rfl rfl) rfl rfl rfl ?_
    refine AO.yld _ (Yld.int rfl rfl rfl) rfl rfl rfl ?_
    refine AO.nil ?_
    refine AC.cond _ rfl (fun c21 => ?_) (fun c21 => ?_)
    · -- c21 True
      have hk := lt_of_decM c21
      obtain ⟨n, hx9⟩ := get_some hk
      have hrow := map_row (enc := Go.V.encS) hx9
      have hne : n ≠ [] := names3_ne hb ha hb2 (List.mem_of_getElem? hx9)
      have hcl := conflTo_len (base := base) (a := a) (b := b) (k := k)
      have hml := mergeTo_len (base := base) (a := a) (b := b) (k := k)
      refine AC.skip ?_
      refine AC.seq ?_
      refine AC.block ?_
      refine AC.seq ?_
      refine AC.region ?_
      refine AO.yld _ (Yld.move rfl) rfl rfl rfl ?_
      refine AO.yld _ (Yld.move rfl) rfl rfl rfl ?_
      refine AO.yld _ (Yld.move rfl) rfl rfl rfl ?_
      refine AO.yld _ (Yld.indexSl Try.underlying31 Try.sizeOf9 rfl rfl hrow rfl) rfl rfl rfl ?_
      refine AO.yld _ (Yld.load Try.isAgg9 rfl rfl) rfl rfl rfl ?_
      refine AO.yld _ (Yld.call rfl rfl Try.call88 rfl rfl rfl (spec_l27Get_c (by first | assumption | omega)) rfl) rfl rfl rfl ?_
      refine AO.alloc 2 Try.zeroValue66 rfl rfl rfl ?_
      refine AO.store Try.sizeOf66 rfl rfl rfl rfl rfl rfl ?_
      refine AO.nil ?_
      refine AC.seq ?_
      refine AC.region ?_
      refine AO.yld _ (Yld.move rfl) rfl rfl rfl ?_
      refine AO.yld _ (Yld.move rfl) rfl rfl rfl ?_
      refine AO.yld _ (Yld.move rfl) rfl rfl rfl ?_
      refine AO.yld _ (Yld.indexSl Try.underlying31 Try.sizeOf9 rfl rfl hrow rfl) rfl rfl rfl ?_
      refine AO.yld _ (Yld.load Try.isAgg9 rfl rfl) rfl rfl rfl ?_
      refine AO.yld _ (Yld.call rfl rfl Try.call88 rfl rfl rfl (spec_l27Get_c (by first | assumption | omega)) rfl) rfl rfl rfl ?_
      refine AO.alloc 3 Try.zeroValue66 rfl rfl rfl ?_
      refine AO.store Try.sizeOf66 rfl rfl rfl rfl rfl rfl ?_
      refine AO.nil ?_
      refine AC.seq ?_
      refine AC.region ?_
      refine AO.yld _ (Yld.move rfl) rfl rfl rfl ?_
      refine AO.yld _ (Yld.move rfl) rfl rfl rfl ?_
      refine AO.yld _ (Yld.move rfl) rfl rfl rfl ?_
      refine AO.yld _ (Yld.indexSl Try.underlying31 Try.sizeOf9 rfl rfl hrow rfl) rfl rfl rfl ?_
      refine AO.yld _ (Yld.load Try.isAgg9 rfl rfl) rfl rfl rfl ?_
      refine AO.yld _ (Yld.call rfl rfl Try.call88 rfl rfl rfl (spec_l27Get_c (by first | assumption | omega)) rfl) rfl rfl rfl ?_
      refine AO.alloc 4 Try.zeroValue66 rfl rfl rfl ?_
      refine AO.store Try.sizeOf66 rfl rfl rfl rfl rfl rfl ?_
      refine AO.nil ?_
      refine AC.seq ?_
      refine AC.region ?_
      refine AO.yld _ (Yld.loadAgg Try.isAgg66 Try.sizeOf66 rfl rfl rfl rfl) rfl rfl rfl ?_
      refine AO.yld _ (Yld.loadAgg Try.isAgg66 Try.sizeOf66 rfl rfl rfl rfl) rfl rfl rfl ?_
      refine AO.yld _ (Yld.binV rfl rfl rfl rfl rfl rfl (by exact neSetting)) rfl rfl rfl ?_
      refine AO.yld _ (Yld.move rfl) rfl rfl rfl ?_
      refine AO.splitAt 45 _ rfl (fun s45 => ?_) (fun s45 => ?_)
      · -- s45 True
        refine AO.yldG _ (Yld.loadAgg Try.isAgg66 Try.sizeOf66 rfl rfl rfl rfl) rfl rfl rfl rfl rfl ?_
        refine AO.yldG _ (Yld.loadAgg Try.isAgg66 Try.sizeOf66 rfl rfl rfl rfl) rfl rfl rfl rfl rfl ?_
        refine AO.yldG _ (Yld.binV rfl rfl rfl rfl rfl rfl (by exact neSetting)) rfl rfl rfl rfl rfl ?_
        refine AO.yld _ (Yld.pickT rfl rfl) rfl rfl rfl ?_
        refine AO.yld _ (Yld.move rfl) rfl rfl rfl ?_
        refine AO.splitAt 50 _ rfl (fun s50 => ?_) (fun s50 => ?_)
        · -- s50 True
          refine AO.yldG _ (Yld.loadAgg Try.isAgg66 Try.sizeOf66 rfl rfl rfl rfl) rfl rfl rfl rfl rfl ?_
          refine AO.yldG _ (Yld.loadAgg Try.isAgg66 Try.sizeOf66 rfl rfl rfl rfl) rfl rfl rfl rfl rfl ?_
          refine AO.yldG _ (Yld.binV rfl rfl rfl rfl rfl rfl (by exact neSetting)) rfl rfl rfl rfl rfl ?_
          refine AO.yld _ (Yld.pickT rfl rfl) rfl rfl rfl ?_
          refine AO.nil ?_
          refine AC.cond _ rfl (fun c54 => ?_) (fun c54 => ?_)
          · -- c54 True
            have h1 : ¬ getZ base n = getZ a n := by simpa using s45
            have h2 : ¬ getZ base n = getZ b n := by simpa using s50
            have h3 : ¬ getZ a n = getZ b n := by simpa using c54
            have hcf : confB base a b n = true := by rw [confB_get hb ha hb2 hne]; simp [h1, h2, h3]
            refine AC.region ?_
            refine AO.yld _ (Yld.move rfl) rfl rfl rfl ?_
            refine AO.yld _ (Yld.move rfl) rfl rfl rfl ?_
            refine AO.yld _ (Yld.move rfl) rfl rfl rfl ?_
            refine AO.yld _ (Yld.indexSl Try.underlying31 Try.sizeOf9 rfl rfl hrow rfl) rfl rfl rfl ?_
            refine AO.yld _ (Yld.load Try.isAgg9 rfl rfl) rfl rfl rfl ?_
            refine AO.buildSlice (rows := [[_]]) 5 Try.underlying31 ty9 rfl rfl rfl rfl rfl rfl rfl rfl rfl ?_
            refine AO.append 1 Try.underlying31 ty9 rfl rfl rfl rfl rfl rfl rfl (by simp [pvOne, str]) (by simp only [List.length_map, List.length_cons, List.length_nil]; omega) (by simp only [List.length_map, List.length_cons, List.length_nil]; omega) rfl ?_
            refine AO.yld _ (Yld.assign rfl) rfl rfl rfl ?_
            refine AO.nil ?_
            refine AC.mark ?_
            refine AC.region ?_
            refine AO.yld _ (Yld.move rfl) rfl rfl rfl ?_
            refine AO.yld _ (Yld.add rfl rfl (by omega) (by omega)) rfl rfl rfl ?_
            refine AO.yld _ (Yld.assign rfl) rfl rfl rfl ?_
            refine AO.nil ?_
            refine AC.back ⟨k + 1, ?_, ?_, ⟨?_, ?_, trivial⟩, ⟨?_, trivial⟩, ⟨rfl, rfl, rfl, rfl, rfl, trivial⟩, ⟨rfl, trivial⟩⟩
            · exact hk
            · omega
            · rfl
            · rfl
            · first | (rw [← confl_yes hx9 hcf]; rfl) | (rw [confl_no hx9 hcf]; rfl)
          · -- c54 False
            have h3 : getZ a n = getZ b n := by simpa using c54
            have hcf : confB base a b n = false := by rw [confB_get hb ha hb2 hne]; simp [h3]
            refine AC.skip ?_
            refine AC.mark ?_
            refine AC.region ?_
            refine AO.yld _ (Yld.move rfl) rfl rfl rfl ?_
            refine AO.yld _ (Yld.add rfl rfl (by omega) (by omega)) rfl rfl rfl ?_
            refine AO.yld _ (Yld.assign rfl) rfl rfl rfl ?_
            refine AO.nil ?_
            refine AC.back ⟨k + 1, ?_, ?_, ⟨?_, ?_, trivial⟩, ⟨?_, trivial⟩, ⟨rfl, rfl, rfl, rfl, rfl, trivial⟩, ⟨rfl, trivial⟩⟩
            · exact hk
            · omega
            · rfl
            · rfl
            · first | (rw [← confl_yes hx9 hcf]; rfl) | (rw [confl_no hx9 hcf]; rfl)
        · -- s50 False
          have h2 : getZ base n = getZ b n := by simpa using s50
          have hcf : confB base a b n = false := by rw [confB_get hb ha hb2 hne]; simp [h2]
          refine AO.skipT rfl rfl rfl rfl rfl ?_
          refine AO.skipT rfl rfl rfl rfl rfl ?_
          refine AO.skipT rfl rfl rfl rfl rfl ?_
          refine AO.yld _ (Yld.pickF rfl rfl) rfl rfl rfl ?_
          refine AO.nil ?_
          refine AC.condF rfl ?_
          refine AC.skip ?_
          refine AC.mark ?_
          refine AC.region ?_
          refine AO.yld _ (Yld.move rfl) rfl rfl rfl ?_
          refine AO.yld _ (Yld.add rfl rfl (by omega) (by omega)) rfl rfl rfl ?_
          refine AO.yld _ (Yld.assign rfl) rfl rfl rfl ?_
          refine AO.nil ?_
          refine AC.back ⟨k + 1, ?_, ?_, ⟨?_, ?_, trivial⟩, ⟨?_, trivial⟩, ⟨rfl, rfl, rfl, rfl, rfl, trivial⟩, ⟨rfl, trivial⟩⟩
          · exact hk
          · omega
          · rfl
          · rfl
          · first | (rw [← confl_yes hx9 hcf]; rfl) | (rw [confl_no hx9 hcf]; rfl)
      · -- s45 False
        have h1 : getZ base n = getZ a n := by simpa using s45
        have hcf : confB base a b n = false := by rw [confB_get hb ha hb2 hne]; simp [h1]
        refine AO.skipT rfl rfl rfl rfl rfl ?_
        refine AO.skipT rfl rfl rfl rfl rfl ?_
        refine AO.skipT rfl rfl rfl rfl rfl ?_
        refine AO.yld _ (Yld.pickF rfl rfl) rfl rfl rfl ?_
        refine AO.yld _ (Yld.move rfl) rfl rfl rfl ?_
        refine AO.skipT rfl rfl rfl rfl rfl ?_
        refine AO.skipT rfl rfl rfl rfl rfl ?_
        refine AO.skipT rfl rfl rfl rfl rfl ?_
        refine AO.yld _ (Yld.pickF rfl rfl) rfl rfl rfl ?_
        refine AO.nil ?_
        refine AC.condF rfl ?_
        refine AC.skip ?_
        refine AC.mark ?_
        refine AC.region ?_
        refine AO.yld _ (Yld.move rfl) rfl rfl rfl ?_
        refine AO.yld _ (Yld.add rfl rfl (by omega) (by omega)) rfl rfl rfl ?_
        refine AO.yld _ (Yld.assign rfl) rfl rfl rfl ?_
        refine AO.nil ?_
        refine AC.back ⟨k + 1, ?_, ?_, ⟨?_, ?_, trivial⟩, ⟨?_, trivial⟩, ⟨rfl, rfl, rfl, rfl, rfl, trivial⟩, ⟨rfl, trivial⟩⟩
        · exact hk
        · omega
        · rfl
        · rfl
        · first | (rw [← confl_yes hx9 hcf]; rfl) | (rw [confl_no hx9 hcf]; rfl)
    · -- c21 False
      obtain rfl : k = (names3 base a b).length := by have := ge_of_decM c21; omega
      refine AC.exit rfl ?_
      refine AC.seq ?_
      refine AC.region ?_
      refine AO.yld _ (Yld.move rfl) rfl rfl rfl ?_
      refine AO.yld _ (Yld.assign rfl) rfl rfl rfl ?_
      refine AO.nil ?_
      refine FnE.ret () [1] [0] Try.results50 (RVs.cons (RV.tmp rfl) RVs.nil) rfl rfl rfl ?_ ?_ ⟨⟨_, rfl, ?_⟩, trivial⟩
      · -- holds
        trivial
      · -- value
        rfl
      · -- thing 0
        rw [conflTo_end]; rfl

theorem eqsSetting {x y : NV} {X Y : Operand} (w : World) : (do eqGuard .eql 66 X Y (.agg [str x.name, .int .i64 x.val].toArray) (.agg [str y.name, .int .i64 y.val].toArray); binOp .eql 66 (.agg [str x.name, .int .i64 x.val].toArray) (.agg [str y.name, .int .i64 y.val].toArray) : Sem Value).run Try.prog w = .ok (.bool (decide (x = y))) w := by
  have g1 : Try.prog.eqGuardType Try.prog.depth 66 = false := by kernel_rfl
  have g2 : Try.prog.stoodInHeld 66 = false := by kernel_rfl
  have g3 : Try.prog.underlying 66 = some (.struct (Try.prog.fieldsOf 66)) := by kernel_rfl
  have g4 : (Try.prog.fieldsOf 66).toList = [⟨ "Name", 9, 0, false, "", "", 0⟩, ⟨ "Value", 2, 1, false, "", "", 16⟩] := by kernel_rfl
  rw [Sem.run_bind, run_eqGuard_agg _ _ _ _ _ _ _ g1, Result.andThen_ok, run_eql_struct, run_equalIn_struct _ _ _ _ _ g3 g2, g4]
  have e : decide (x = y) = (decide (x.name = y.name) && decide (x.val = y.val)) := by cases x; cases y; simp
  rw [e]
  clear g1 g2 g3 g4 e
  simp [Op.eqFields, go_sem, part, str, Try.sizeOf2, Try.isAgg2, Try.sizeOf9, Try.isAgg9, run_equalIn_int (h := Try.underlying2), run_equalIn_string (h := Try.underlying9)]
  by_cases h0 : x.name = y.name <;> by_cases h1 : x.val = y.val <;> simp_all

theorem spec_l27Merge_c {base a b : List NV} (hb : okState base = true) (ha : okState a = true) (hb2 : okState b = true) :
    FnE (α := Unit) Try.prog 44 [.p (.sl 2 (base.map encNV)), .p (.sl 2 (a.map encNV)), .p (.sl 2 (b.map encNV))] [] [] (fun _ => True) (fun _ => .tup [.h 0, .p (.v (.int .i64 (merge2 base a b).2))]) (fun _ => [(0, .vec 66 2 ((merge2 base a b).1.map encNV))]) := by
  have hl1 := state_len hb; have hl2 := state_len ha; have hl3 := state_len hb2
  have hN := names3_len base a b
  refine FnE.intro Try.func44 rfl Try.ntmps44 rfl rfl (fun w0 F0 η φ w => ?_)
  refine AC.seq ?_
  refine AC.region ?_
  refine AO.yld _ (Yld.assign rfl) rfl rfl rfl ?_
  refine AO.yld _ (Yld.assign rfl) rfl rfl rfl ?_
  refine AO.nil ?_
  refine AC.seq ?_
  refine AC.seq ?_
  refine AC.region ?_
  refine AO.yld _ (Yld.move rfl) rfl rfl rfl ?_
  refine AO.yld _ (Yld.move rfl) rfl rfl rfl ?_
  refine AO.yld _ (Yld.move rfl) rfl rfl rfl ?_
  refine AO.callW (wantedN rfl) [0] [] [0] rfl rfl Try.call50 rfl (spec_l27Conflicts_c (by assumption) (by assumption) (by assumption)) (.flat (.view rfl rfl (.view rfl rfl (.view rfl rfl .nil))) (fun _ => by simp [AV.Flat, AV.FlatL, PV.Flat, PV.FlatL]) (fun _ => ⟨flat_map flatS _, trivial⟩)) rfl (fun _ => rfl) trivial rfl (fun _ => rfl) (fun _ => rfl) (fun _ _ => ?_)
  refine AO.yld _ (Yld.len Try.underlying31 rfl rfl) rfl rfl rfl ?_
  refine AO.yld _ (Yld.int rfl rfl rfl) rfl rfl rfl ?_
  refine AO.nil ?_
  refine AC.cond _ rfl (fun c17 => ?_) (fun c17 => ?_)
  · -- c17 True
    have hg1 : 0 < (conflL base a b).length := by have h := c17; simpa using h
    refine AC.seq ?_
    refine AC.region ?_
    refine AO.yld _ (Yld.assign rfl) rfl rfl rfl ?_
    refine AO.yld _ (Yld.assign rfl) rfl rfl rfl ?_
    refine AO.nil ?_
    refine AC.nilVec 6 1 66 2 rfl rfl ?_
    refine FnE.ret () [1] [0] Try.results44 (RVs.cons (RV.tmp rfl) (RVs.cons (RV.tmp rfl) RVs.nil)) rfl rfl rfl ?_ ?_ ⟨⟨_, rfl, ?_⟩, trivial⟩
    · -- holds
      trivial
    · -- value
      refine tupE ?_; unfold merge2; first | (rw [if_pos hg1]; first | done | rfl) | (rw [if_neg hg1, if_pos hg2]; first | done | rfl) | (rw [if_neg hg1, if_neg hg2]; first | done | rfl)
    · -- thing 0
      refine vecE ?_; unfold merge2; first | (rw [if_pos hg1]; first | done | rfl) | (rw [if_neg hg1, if_pos hg2]; first | done | rfl) | (rw [if_neg hg1, if_neg hg2]; first | done | rfl)
  · -- c17 False
    have hg1 : ¬ 0 < (conflL base a b).length := by have h := c17; simpa using h
    refine AC.skip ?_
    refine AC.seq ?_
    refine AC.region ?_
    refine AO.yld _ (Yld.move rfl) rfl rfl rfl ?_
    refine AO.yld _ (Yld.move rfl) rfl rfl rfl ?_
    refine AO.yld _ (Yld.move rfl) rfl rfl rfl ?_
    refine AO.callW (wantedN rfl) [1] [] [0] rfl rfl Try.call87 rfl (spec_l27Names_c (by omega) (by omega) (by omega)) (.flat (.view rfl rfl (.view rfl rfl (.view rfl rfl .nil))) (fun _ => by simp [AV.Flat, AV.FlatL, PV.Flat, PV.FlatL]) (fun _ => ⟨flat_map flatS _, trivial⟩)) rfl (fun _ => rfl) trivial rfl (fun _ => rfl) (fun _ => rfl) (fun _ _ => ?_)
    refine AO.yld _ (Yld.assign rfl) rfl rfl rfl ?_
    refine AO.nil ?_
    refine AC.seq ?_
    refine AC.region ?_
    refine AO.freeze 1 rfl ?_
    refine AO.buildSlice (rows := []) 2 Try.underlying24 ty66 rfl rfl rfl rfl rfl rfl rfl rfl rfl ?_
    refine AO.yld _ (Yld.assign rfl) rfl rfl rfl ?_
    refine AO.nil ?_
    refine AC.seq ?_
    refine AC.seq ?_
    refine AC.region ?_
    refine AO.yld _ (Yld.assign rfl) rfl rfl rfl ?_
    refine AO.nil ?_
    refine AC.block ?_
    refine AC.loopC [(0, _), (1, _), (2, _), (6, _), (7, _), (8, _)] [(0, _), (900, _)] (fun (k : Nat) => [(10, .p (.v (.int .i64 (k : Int)))), (9, .h 2)]) (fun (k : Nat) => [(2, .vec 66 2 ((mergeTo base a b k).map encNV))]) (fun (k : Nat) => k ≤ (names3 base a b).length) (fun (k : Nat) => (names3 base a b).length - k) 0 ⟨rfl, rfl, rfl, rfl, rfl, rfl, trivial⟩ ⟨rfl, rfl, trivial⟩ ⟨rfl, rfl, trivial⟩ ⟨rfl, trivial⟩ ?_ (fun k hJ => ?_)
    · exact Nat.zero_le _
    · -- round
      refine AC.seq ?_
      refine AC.seq ?_
      refine AC.region ?_
      refine AO.yld _ (Yld.move rfl) rfl rfl rfl ?_
      refine AO.yld _ (Yld.move rfl) rfl rfl rfl ?_
      refine AO.yld _ (Yld.len Try.underlying31 rfl rfl) rfl rfl rfl ?_
      refine AO.yld _ (Yld.int rfl rfl rfl) rfl rfl rfl ?_
      refine AO.nil ?_
      refine AC.cond _ rfl (fun c26 => ?_) (fun c26 => ?_)
      · -- c26 True
        have hk := lt_of_decM c26
        obtain ⟨n, hx9⟩ := get_some hk
        have hrow := map_row (enc := Go.V.encS) hx9
        have hne : n ≠ [] := names3_ne hb ha hb2 (List.mem_of_getElem? hx9)
        have hcl := conflTo_len (base := base) (a := a) (b := b) (k := k)
        have hml := mergeTo_len (base := base) (a := a) (b := b) (k := k)
        refine AC.skip ?_
        refine AC.seq ?_
        refine AC.block ?_
        refine AC.seq ?_
        refine AC.region ?_
        refine AO.yld _ (Yld.move rfl) rfl rfl rfl ?_
        refine AO.yld _ (Yld.move rfl) rfl rfl rfl ?_
        refine AO.yld _ (Yld.move rfl) rfl rfl rfl ?_
        refine AO.yld _ (Yld.indexSl Try.underlying31 Try.sizeOf9 rfl rfl hrow rfl) rfl rfl rfl ?_
        refine AO.yld _ (Yld.load Try.isAgg9 rfl rfl) rfl rfl rfl ?_
        refine AO.yld _ (Yld.call rfl rfl Try.call88 rfl rfl rfl (spec_l27Get_c (by first | assumption | omega)) rfl) rfl rfl rfl ?_
        refine AO.alloc 3 Try.zeroValue66 rfl rfl rfl ?_
        refine AO.store Try.sizeOf66 rfl rfl rfl rfl rfl rfl ?_
        refine AO.nil ?_
        refine AC.seq ?_
        refine AC.seq ?_
        refine AC.draw (by kernel_rfl) (by kernel_rfl) ?_
        refine AO.yld _ (Yld.loadAgg Try.isAgg66 Try.sizeOf66 rfl rfl rfl rfl) rfl rfl rfl ?_
        refine AO.yld _ (Yld.move rfl) rfl rfl rfl ?_
        refine AO.yld _ (Yld.move rfl) rfl rfl rfl ?_
        refine AO.yld _ (Yld.move rfl) rfl rfl rfl ?_
        refine AO.yld _ (Yld.indexSl Try.underlying31 Try.sizeOf9 rfl rfl hrow rfl) rfl rfl rfl ?_
        refine AO.yld _ (Yld.load Try.isAgg9 rfl rfl) rfl rfl rfl ?_
        refine AO.yld _ (Yld.call rfl rfl Try.call88 rfl rfl rfl (spec_l27Get_c (by first | assumption | omega)) rfl) rfl rfl rfl ?_
        refine AO.yld _ (Yld.binV rfl rfl rfl rfl rfl rfl (by exact eqsSetting)) rfl rfl rfl ?_
        refine AO.nil ?_
        refine AC.cond _ rfl (fun c42 => ?_) (fun c42 => ?_)
        · -- c42 True
          have h1 : getZ a n = getZ base n := by simpa using c42
          have hmv : mergeV base a b n = vIn b n := if_pos ((get_eq ha hb hne).1 h1)
          refine AC.region ?_
          refine AO.yld _ (Yld.move rfl) rfl rfl rfl ?_
          refine AO.yld _ (Yld.move rfl) rfl rfl rfl ?_
          refine AO.yld _ (Yld.move rfl) rfl rfl rfl ?_
          refine AO.yld _ (Yld.indexSl Try.underlying31 Try.sizeOf9 rfl rfl hrow rfl) rfl rfl rfl ?_
          refine AO.yld _ (Yld.load Try.isAgg9 rfl rfl) rfl rfl rfl ?_
          refine AO.yld _ (Yld.call rfl rfl Try.call88 rfl rfl rfl (spec_l27Get_c (by first | assumption | omega)) rfl) rfl rfl rfl ?_
          refine AO.store Try.sizeOf66 rfl rfl rfl rfl rfl rfl ?_
          refine AO.nil ?_
          refine AC.seq ?_
          refine AC.region ?_
          refine AO.yld _ (Yld.fieldAddr Try.underlying66 rfl rfl Try.sizeOf9 rfl rfl rfl) rfl rfl rfl ?_
          refine AO.yld _ (Yld.load Try.isAgg9 rfl rfl) rfl rfl rfl ?_
          refine AO.yld _ (Yld.cmpStr rfl rfl rfl) rfl rfl rfl ?_
          refine AO.nil ?_
          refine AC.cond _ rfl (fun c51 => ?_) (fun c51 => ?_)
          · -- c51 True
            have hz := of_str_ne c51
            refine AC.region ?_
            refine AO.yld _ (Yld.move rfl) rfl rfl rfl ?_
            refine AO.yld _ (Yld.loadAgg Try.isAgg66 Try.sizeOf66 rfl rfl rfl rfl) rfl rfl rfl ?_
            refine AO.buildSlice (rows := [[_, _]]) 4 Try.underlying24 ty66 rfl rfl rfl rfl rfl rfl rfl rfl rfl ?_
            refine AO.append 2 Try.underlying24 ty66 rfl rfl rfl rfl rfl rfl rfl (by simp [pvOne, str]) (by simp only [List.length_map, List.length_cons, List.length_nil]; omega) (by simp only [List.length_map, List.length_cons, List.length_nil]; omega) rfl ?_
            refine AO.yld _ (Yld.assign rfl) rfl rfl rfl ?_
            refine AO.nil ?_
            refine AC.mark ?_
            refine AC.region ?_
            refine AO.yld _ (Yld.move rfl) rfl rfl rfl ?_
            refine AO.yld _ (Yld.add rfl rfl (by omega) (by omega)) rfl rfl rfl ?_
            refine AO.yld _ (Yld.assign rfl) rfl rfl rfl ?_
            refine AO.nil ?_
            refine AC.back ⟨k + 1, ?_, ?_, ⟨?_, ?_, trivial⟩, ⟨?_, trivial⟩, ⟨rfl, rfl, rfl, rfl, rfl, rfl, trivial⟩, ⟨rfl, rfl, trivial⟩⟩
            · exact hk
            · omega
            · rfl
            · rfl
            · first | (rw [← mergeG_yes hx9 ‹_› hmv hz]; rfl) | (rw [mergeG_no hx9 ‹_› hne hmv hz]; rfl)
          · -- c51 False
            have hz := of_str_eq c51
            refine AC.skip ?_
            refine AC.mark ?_
            refine AC.region ?_
            refine AO.yld _ (Yld.move rfl) rfl rfl rfl ?_
            refine AO.yld _ (Yld.add rfl rfl (by omega) (by omega)) rfl rfl rfl ?_
            refine AO.yld _ (Yld.assign rfl) rfl rfl rfl ?_
            refine AO.nil ?_
            refine AC.back ⟨k + 1, ?_, ?_, ⟨?_, ?_, trivial⟩, ⟨?_, trivial⟩, ⟨rfl, rfl, rfl, rfl, rfl, rfl, trivial⟩, ⟨rfl, rfl, trivial⟩⟩
            · exact hk
            · omega
            · rfl
            · rfl
            · first | (rw [← mergeG_yes hx9 ‹_› hmv hz]; rfl) | (rw [mergeG_no hx9 ‹_› hne hmv hz]; rfl)
        · -- c42 False
          have h1 : ¬ getZ a n = getZ base n := by simpa using c42
          have hmv : mergeV base a b n = vIn a n := if_neg (fun e => h1 ((get_eq ha hb hne).2 e))
          refine AC.skip ?_
          refine AC.seq ?_
          refine AC.region ?_
          refine AO.yld _ (Yld.fieldAddr Try.underlying66 rfl rfl Try.sizeOf9 rfl rfl rfl) rfl rfl rfl ?_
          refine AO.yld _ (Yld.load Try.isAgg9 rfl rfl) rfl rfl rfl ?_
          refine AO.yld _ (Yld.cmpStr rfl rfl rfl) rfl rfl rfl ?_
          refine AO.nil ?_
          refine AC.cond _ rfl (fun c51 => ?_) (fun c51 => ?_)
          · -- c51 True
            have hz := of_str_ne c51
            refine AC.region ?_
            refine AO.yld _ (Yld.move rfl) rfl rfl rfl ?_
            refine AO.yld _ (Yld.loadAgg Try.isAgg66 Try.sizeOf66 rfl rfl rfl rfl) rfl rfl rfl ?_
            refine AO.buildSlice (rows := [[_, _]]) 4 Try.underlying24 ty66 rfl rfl rfl rfl rfl rfl rfl rfl rfl ?_
            refine AO.append 2 Try.underlying24 ty66 rfl rfl rfl rfl rfl rfl rfl (by simp [pvOne, str]) (by simp only [List.length_map, List.length_cons, List.length_nil]; omega) (by simp only [List.length_map, List.length_cons, List.length_nil]; omega) rfl ?_
            refine AO.yld _ (Yld.assign rfl) rfl rfl rfl ?_
            refine AO.nil ?_
            refine AC.mark ?_
            refine AC.region ?_
            refine AO.yld _ (Yld.move rfl) rfl rfl rfl ?_
            refine AO.yld _ (Yld.add rfl rfl (by omega) (by omega)) rfl rfl rfl ?_
            refine AO.yld _ (Yld.assign rfl) rfl rfl rfl ?_
            refine AO.nil ?_
            refine AC.back ⟨k + 1, ?_, ?_, ⟨?_, ?_, trivial⟩, ⟨?_, trivial⟩, ⟨rfl, rfl, rfl, rfl, rfl, rfl, trivial⟩, ⟨rfl, rfl, trivial⟩⟩
            · exact hk
            · omega
            · rfl
            · rfl
            · first | (rw [← mergeG_yes hx9 ‹_› hmv hz]; rfl) | (rw [mergeG_no hx9 ‹_› hne hmv hz]; rfl)
          · -- c51 False
            have hz := of_str_eq c51
            refine AC.skip ?_
            refine AC.mark ?_
            refine AC.region ?_
            refine AO.yld _ (Yld.move rfl) rfl rfl rfl ?_
            refine AO.yld _ (Yld.add rfl rfl (by omega) (by omega)) rfl rfl rfl ?_
            refine AO.yld _ (Yld.assign rfl) rfl rfl rfl ?_
            refine AO.nil ?_
            refine AC.back ⟨k + 1, ?_, ?_, ⟨?_, ?_, trivial⟩, ⟨?_, trivial⟩, ⟨rfl, rfl, rfl, rfl, rfl, rfl, trivial⟩, ⟨rfl, rfl, trivial⟩⟩
            · exact hk
            · omega
            · rfl
            · rfl
            · first | (rw [← mergeG_yes hx9 ‹_› hmv hz]; rfl) | (rw [mergeG_no hx9 ‹_› hne hmv hz]; rfl)
      · -- c26 False
        obtain rfl : k = (names3 base a b).length := by have := ge_of_decM c26; omega
        rw [mergeTo_end]
        refine AC.exit rfl ?_
        refine AC.seq ?_
        refine AC.seq ?_
        refine AC.region ?_
        refine AO.yld _ (Yld.move rfl) rfl rfl rfl ?_
        refine AO.yld _ (Yld.len Try.underlying24 rfl rfl) rfl rfl rfl ?_
        refine AO.yld _ (Yld.int rfl rfl rfl) rfl rfl rfl ?_
        refine AO.nil ?_
        refine AC.cond _ rfl (fun c58 => ?_) (fun c58 => ?_)
        · -- c58 True
          have hg2 : 24 < (mergeL base a b).length := by have h := c58; simp only [List.length_map, decide_eq_true_eq] at h; omega
          refine AC.seq ?_
          refine AC.region ?_
          refine AO.yld _ (Yld.assign rfl) rfl rfl rfl ?_
          refine AO.yld _ (Yld.assign rfl) rfl rfl rfl ?_
          refine AO.nil ?_
          refine AC.nilVec 6 3 66 2 rfl rfl ?_
          refine FnE.ret () [3] [0] Try.results44 (RVs.cons (RV.tmp rfl) (RVs.cons (RV.tmp rfl) RVs.nil)) rfl rfl rfl ?_ ?_ ⟨⟨_, rfl, ?_⟩, trivial⟩
          · -- holds
            trivial
          · -- value
            refine tupE ?_; unfold merge2; first | (rw [if_pos hg1]; first | done | rfl) | (rw [if_neg hg1, if_pos hg2]; first | done | rfl) | (rw [if_neg hg1, if_neg hg2]; first | done | rfl)
          · -- thing 0
            refine vecE ?_; unfold merge2; first | (rw [if_pos hg1]; first | done | rfl) | (rw [if_neg hg1, if_pos hg2]; first | done | rfl) | (rw [if_neg hg1, if_neg hg2]; first | done | rfl)
        · -- c58 False
          have hg2 : ¬ 24 < (mergeL base a b).length := by have h := c58; simp only [List.length_map, decide_eq_false_iff_not] at h; omega
          refine AC.skip ?_
          refine AC.seq ?_
          refine AC.region ?_
          refine AO.yld _ (Yld.move rfl) rfl rfl rfl ?_
          refine AO.yld _ (Yld.assign rfl) rfl rfl rfl ?_
          refine AO.yld _ (Yld.assign rfl) rfl rfl rfl ?_
          refine AO.nil ?_
          refine FnE.ret () [2] [0] Try.results44 (RVs.cons (RV.tmp rfl) (RVs.cons (RV.tmp rfl) RVs.nil)) rfl rfl rfl ?_ ?_ ⟨⟨_, rfl, ?_⟩, trivial⟩
          · -- holds
            trivial
          · -- value
            refine tupE ?_; unfold merge2; first | (rw [if_pos hg1]; first | done | rfl) | (rw [if_neg hg1, if_pos hg2]; first | done | rfl) | (rw [if_neg hg1, if_neg hg2]; first | done | rfl)
          · -- thing 0
            refine vecE ?_; unfold merge2; first | (rw [if_pos hg1]; first | done | rfl) | (rw [if_neg hg1, if_pos hg2]; first | done | rfl) | (rw [if_neg hg1, if_neg hg2]; first | done | rfl)

theorem spec_ConflictsOf_c {base a b : List NV} (hb : base.length ≤ 1048576) (ha : a.length ≤ 1048576) (hb2 : b.length ≤ 1048576) (hnb : ∀ s ∈ base, s.name.length ≤ 1048576) (hna : ∀ s ∈ a, s.name.length ≤ 1048576) (hnb2 : ∀ s ∈ b, s.name.length ≤ 1048576) :
    FnE (α := Unit) Try.prog 15 [.p (.sl 2 (base.map encNV)), .p (.sl 2 (a.map encNV)), .p (.sl 2 (b.map encNV))] [] [] (fun _ => True) (fun _ => .tup [.h 0, .p (.v (.int .i64 (conflictsOf base a b).2))]) (fun _ => [(0, .vec 9 1 ((conflictsOf base a b).1.map Go.V.encS))]) := by
  refine FnE.intro Try.func15 rfl Try.ntmps15 rfl rfl (fun w0 F0 η φ w => ?_)
  refine AC.seq ?_
  refine AC.region ?_
  refine AO.yld _ (Yld.assign rfl) rfl rfl rfl ?_
  refine AO.yld _ (Yld.assign rfl) rfl rfl rfl ?_
  refine AO.nil ?_
  refine AC.seq ?_
  refine AC.seq ?_
  refine AC.region ?_
  refine AO.yld _ (Yld.move rfl) rfl rfl rfl ?_
  refine AO.yld _ (Yld.call rfl rfl Try.call43 rfl rfl rfl (spec_l27State_c (by first | assumption | omega) (by assumption)) rfl) rfl rfl rfl ?_
  refine AO.yld _ (Yld.not rfl) rfl rfl rfl ?_
  refine AO.yld _ (Yld.move rfl) rfl rfl rfl ?_
  refine AO.splitAt 11 _ rfl (fun s11 => ?_) (fun s11 => ?_)
  · -- s11 True
    refine AO.skipF rfl rfl rfl rfl rfl ?_
    refine AO.skipF rfl rfl rfl rfl rfl ?_
    refine AO.skipF rfl rfl rfl rfl rfl ?_
    refine AO.yld _ (Yld.pickT rfl rfl) rfl rfl rfl ?_
    refine AO.yld _ (Yld.move rfl) rfl rfl rfl ?_
    refine AO.skipF rfl rfl rfl rfl rfl ?_
    refine AO.skipF rfl rfl rfl rfl rfl ?_
    refine AO.skipF rfl rfl rfl rfl rfl ?_
    refine AO.yld _ (Yld.pickT rfl rfl) rfl rfl rfl ?_
    refine AO.nil ?_
    refine AC.condT rfl ?_
    refine AC.seq ?_
    refine AC.region ?_
    refine AO.yld _ (Yld.assign rfl) rfl rfl rfl ?_
    refine AO.yld _ (Yld.assign rfl) rfl rfl rfl ?_
    refine AO.nil ?_
    refine AC.nilVec 6 0 9 1 rfl rfl ?_
    refine FnE.ret () [0] [0] Try.results15 (RVs.cons (RV.tmp rfl) (RVs.cons (RV.tmp rfl) RVs.nil)) rfl rfl rfl ?_ ?_ ⟨⟨_, rfl, ?_⟩, trivial⟩
    · -- holds
      trivial
    · -- value
      refine tupE ?_; unfold conflictsOf; first | rw [if_pos hok] | rw [if_neg (by clear hnb hna hnb2 hb ha hb2; simp_all)]
    · -- thing 0
      refine vecE ?_; unfold conflictsOf; first | (rw [if_pos hok]; done) | (rw [if_neg (by clear hnb hna hnb2 hb ha hb2; simp_all)]; rfl)
  · -- s11 False
    refine AO.yldG _ (Yld.move rfl) rfl rfl rfl rfl rfl ?_
    refine AO.yldG _ (Yld.call rfl rfl Try.call43 rfl rfl rfl (spec_l27State_c (by first | assumption | omega) (by assumption)) rfl) rfl rfl rfl rfl rfl ?_
    refine AO.yldG _ (Yld.not rfl) rfl rfl rfl rfl rfl ?_
    refine AO.yld _ (Yld.pickF rfl rfl) rfl rfl rfl ?_
    refine AO.yld _ (Yld.move rfl) rfl rfl rfl ?_
    refine AO.splitAt 16 _ rfl (fun s16 => ?_) (fun s16 => ?_)
    · -- s16 True
      refine AO.skipF rfl rfl rfl rfl rfl ?_
      refine AO.skipF rfl rfl rfl rfl rfl ?_
      refine AO.skipF rfl rfl rfl rfl rfl ?_
      refine AO.yld _ (Yld.pickT rfl rfl) rfl rfl rfl ?_
      refine AO.nil ?_
      refine AC.condT rfl ?_
      refine AC.seq ?_
      refine AC.region ?_
      refine AO.yld _ (Yld.assign rfl) rfl rfl rfl ?_
      refine AO.yld _ (Yld.assign rfl) rfl rfl rfl ?_
      refine AO.nil ?_
      refine AC.nilVec 6 0 9 1 rfl rfl ?_
      refine FnE.ret () [0] [0] Try.results15 (RVs.cons (RV.tmp rfl) (RVs.cons (RV.tmp rfl) RVs.nil)) rfl rfl rfl ?_ ?_ ⟨⟨_, rfl, ?_⟩, trivial⟩
      · -- holds
        trivial
      · -- value
        refine tupE ?_; unfold conflictsOf; first | rw [if_pos hok] | rw [if_neg (by clear hnb hna hnb2 hb ha hb2; simp_all)]
      · -- thing 0
        refine vecE ?_; unfold conflictsOf; first | (rw [if_pos hok]; done) | (rw [if_neg (by clear hnb hna hnb2 hb ha hb2; simp_all)]; rfl)
    · -- s16 False
      refine AO.yldG _ (Yld.move rfl) rfl rfl rfl rfl rfl ?_
      refine AO.yldG _ (Yld.call rfl rfl Try.call43 rfl rfl rfl (spec_l27State_c (by first | assumption | omega) (by assumption)) rfl) rfl rfl rfl rfl rfl ?_
      refine AO.yldG _ (Yld.not rfl) rfl rfl rfl rfl rfl ?_
      refine AO.yld _ (Yld.pickF rfl rfl) rfl rfl rfl ?_
      refine AO.nil ?_
      refine AC.cond _ rfl (fun c20 => ?_) (fun c20 => ?_)
      · -- c20 True
        refine AC.seq ?_
        refine AC.region ?_
        refine AO.yld _ (Yld.assign rfl) rfl rfl rfl ?_
        refine AO.yld _ (Yld.assign rfl) rfl rfl rfl ?_
        refine AO.nil ?_
        refine AC.nilVec 6 0 9 1 rfl rfl ?_
        refine FnE.ret () [0] [0] Try.results15 (RVs.cons (RV.tmp rfl) (RVs.cons (RV.tmp rfl) RVs.nil)) rfl rfl rfl ?_ ?_ ⟨⟨_, rfl, ?_⟩, trivial⟩
        · -- holds
          trivial
        · -- value
          refine tupE ?_; unfold conflictsOf; first | rw [if_pos hok] | rw [if_neg (by clear hnb hna hnb2 hb ha hb2; simp_all)]
        · -- thing 0
          refine vecE ?_; unfold conflictsOf; first | (rw [if_pos hok]; done) | (rw [if_neg (by clear hnb hna hnb2 hb ha hb2; simp_all)]; rfl)
      · -- c20 False
        have ho1 : okState base = true := by simpa using s11
        have ho2 : okState a = true := by simpa using s16
        have ho3 : okState b = true := by simpa using c20
        have hok : (okState base && okState a && okState b) = true := by rw [ho1, ho2, ho3]; rfl
        have hl1 := state_len ho1; have hl2 := state_len ho2; have hl3 := state_len ho3
        refine AC.skip ?_
        refine AC.seq ?_
        refine AC.region ?_
        refine AO.yld _ (Yld.move rfl) rfl rfl rfl ?_
        refine AO.yld _ (Yld.move rfl) rfl rfl rfl ?_
        refine AO.yld _ (Yld.move rfl) rfl rfl rfl ?_
        refine AO.callW (wantedN rfl) [0] [] [0] rfl rfl Try.call50 rfl (spec_l27Conflicts_c (by assumption) (by assumption) (by assumption)) (.flat (.view rfl rfl (.view rfl rfl (.view rfl rfl .nil))) (fun _ => by simp [AV.Flat, AV.FlatL, PV.Flat, PV.FlatL]) (fun _ => ⟨flat_map flatS _, trivial⟩)) rfl (fun _ => rfl) trivial rfl (fun _ => rfl) (fun _ => rfl) (fun _ _ => ?_)
        refine AO.yld _ (Yld.assign rfl) rfl rfl rfl ?_
        refine AO.yld _ (Yld.assign rfl) rfl rfl rfl ?_
        refine AO.nil ?_
        refine FnE.ret () [0] [0] Try.results15 (RVs.cons (RV.tmp rfl) (RVs.cons (RV.tmp rfl) RVs.nil)) rfl rfl rfl ?_ ?_ ⟨⟨_, rfl, ?_⟩, trivial⟩
        · -- holds
          trivial
        · -- value
          refine tupE ?_; unfold conflictsOf; first | rw [if_pos hok] | rw [if_neg (by clear hnb hna hnb2 hb ha hb2; simp_all)]
        · -- thing 0
          refine vecE ?_; unfold conflictsOf; first | (rw [if_pos hok]; done) | (rw [if_neg (by clear hnb hna hnb2 hb ha hb2; simp_all)]; rfl)

theorem spec_MergeStates_c {base a b : List NV} (hb : base.length ≤ 1048576) (ha : a.length ≤ 1048576) (hb2 : b.length ≤ 1048576) (hnb : ∀ s ∈ base, s.name.length ≤ 1048576) (hna : ∀ s ∈ a, s.name.length ≤ 1048576) (hnb2 : ∀ s ∈ b, s.name.length ≤ 1048576) :
    FnE (α := Unit) Try.prog 9 [.p (.sl 2 (base.map encNV)), .p (.sl 2 (a.map encNV)), .p (.sl 2 (b.map encNV))] [] [] (fun _ => True) (fun _ => .tup [.h 0, .p (.v (.int .i64 (mergeStates base a b).2))]) (fun _ => [(0, .vec 66 2 ((mergeStates base a b).1.map encNV))]) := by
  refine FnE.intro Try.func9 rfl Try.ntmps9 rfl rfl (fun w0 F0 η φ w => ?_)
  refine AC.seq ?_
  refine AC.region ?_
  refine AO.yld _ (Yld.assign rfl) rfl rfl rfl ?_
  refine AO.yld _ (Yld.assign rfl) rfl rfl rfl ?_
  refine AO.nil ?_
  refine AC.seq ?_
  refine AC.seq ?_
  refine AC.region ?_
  refine AO.yld _ (Yld.move rfl) rfl rfl rfl ?_
  refine AO.yld _ (Yld.call rfl rfl Try.call43 rfl rfl rfl (spec_l27State_c (by first | assumption | omega) (by assumption)) rfl) rfl rfl rfl ?_
  refine AO.yld _ (Yld.not rfl) rfl rfl rfl ?_
  refine AO.yld _ (Yld.move rfl) rfl rfl rfl ?_
  refine AO.splitAt 11 _ rfl (fun s11 => ?_) (fun s11 => ?_)
  · -- s11 True
    refine AO.skipF rfl rfl rfl rfl rfl ?_
    refine AO.skipF rfl rfl rfl rfl rfl ?_
    refine AO.skipF rfl rfl rfl rfl rfl ?_
    refine AO.yld _ (Yld.pickT rfl rfl) rfl rfl rfl ?_
    refine AO.yld _ (Yld.move rfl) rfl rfl rfl ?_
    refine AO.skipF rfl rfl rfl rfl rfl ?_
    refine AO.skipF rfl rfl rfl rfl rfl ?_
    refine AO.skipF rfl rfl rfl rfl rfl ?_
    refine AO.yld _ (Yld.pickT rfl rfl) rfl rfl rfl ?_
    refine AO.nil ?_
    refine AC.condT rfl ?_
    refine AC.seq ?_
    refine AC.region ?_
    refine AO.yld _ (Yld.assign rfl) rfl rfl rfl ?_
    refine AO.yld _ (Yld.assign rfl) rfl rfl rfl ?_
    refine AO.nil ?_
    refine AC.nilVec 6 0 66 2 rfl rfl ?_
    refine FnE.ret () [0] [0] Try.results9 (RVs.cons (RV.tmp rfl) (RVs.cons (RV.tmp rfl) RVs.nil)) rfl rfl rfl ?_ ?_ ⟨⟨_, rfl, ?_⟩, trivial⟩
    · -- holds
      trivial
    · -- value
      refine tupE ?_; first | (rw [mergeStates_ok hok]; done) | rw [mergeStates_no (by clear hnb hna hnb2 hb ha hb2; simp_all)]
    · -- thing 0
      refine vecE ?_; first | (rw [mergeStates_ok hok]; done) | (rw [mergeStates_no (by clear hnb hna hnb2 hb ha hb2; simp_all)]; first | done | rfl)
  · -- s11 False
    refine AO.yldG _ (Yld.move rfl) rfl rfl rfl rfl rfl ?_
    refine AO.yldG _ (Yld.call rfl rfl Try.call43 rfl rfl rfl (spec_l27State_c (by first | assumption | omega) (by assumption)) rfl) rfl rfl rfl rfl rfl ?_
    refine AO.yldG _ (Yld.not rfl) rfl rfl rfl rfl rfl ?_
    refine AO.yld _ (Yld.pickF rfl rfl) rfl rfl rfl ?_
    refine AO.yld _ (Yld.move rfl) rfl rfl rfl ?_
    refine AO.splitAt 16 _ rfl (fun s16 => ?_) (fun s16 => ?_)
    · -- s16 True
      refine AO.skipF rfl rfl rfl rfl rfl ?_
      refine AO.skipF rfl rfl rfl rfl rfl ?_
      refine AO.skipF rfl rfl rfl rfl rfl ?_
      refine AO.yld _ (Yld.pickT rfl rfl) rfl rfl rfl ?_
      refine AO.nil ?_
      refine AC.condT rfl ?_
      refine AC.seq ?_
      refine AC.region ?_
      refine AO.yld _ (Yld.assign rfl) rfl rfl rfl ?_
      refine AO.yld _ (Yld.assign rfl) rfl rfl rfl ?_
      refine AO.nil ?_
      refine AC.nilVec 6 0 66 2 rfl rfl ?_
      refine FnE.ret () [0] [0] Try.results9 (RVs.cons (RV.tmp rfl) (RVs.cons (RV.tmp rfl) RVs.nil)) rfl rfl rfl ?_ ?_ ⟨⟨_, rfl, ?_⟩, trivial⟩
      · -- holds
        trivial
      · -- value
        refine tupE ?_; first | (rw [mergeStates_ok hok]; done) | rw [mergeStates_no (by clear hnb hna hnb2 hb ha hb2; simp_all)]
      · -- thing 0
        refine vecE ?_; first | (rw [mergeStates_ok hok]; done) | (rw [mergeStates_no (by clear hnb hna hnb2 hb ha hb2; simp_all)]; first | done | rfl)
    · -- s16 False
      refine AO.yldG _ (Yld.move rfl) rfl rfl rfl rfl rfl ?_
      refine AO.yldG _ (Yld.call rfl rfl Try.call43 rfl rfl rfl (spec_l27State_c (by first | assumption | omega) (by assumption)) rfl) rfl rfl rfl rfl rfl ?_
      refine AO.yldG _ (Yld.not rfl) rfl rfl rfl rfl rfl ?_
      refine AO.yld _ (Yld.pickF rfl rfl) rfl rfl rfl ?_
      refine AO.nil ?_
      refine AC.cond _ rfl (fun c20 => ?_) (fun c20 => ?_)
      · -- c20 True
        refine AC.seq ?_
        refine AC.region ?_
        refine AO.yld _ (Yld.assign rfl) rfl rfl rfl ?_
        refine AO.yld _ (Yld.assign rfl) rfl rfl rfl ?_
        refine AO.nil ?_
        refine AC.nilVec 6 0 66 2 rfl rfl ?_
        refine FnE.ret () [0] [0] Try.results9 (RVs.cons (RV.tmp rfl) (RVs.cons (RV.tmp rfl) RVs.nil)) rfl rfl rfl ?_ ?_ ⟨⟨_, rfl, ?_⟩, trivial⟩
        · -- holds
          trivial
        · -- value
          refine tupE ?_; first | (rw [mergeStates_ok hok]; done) | rw [mergeStates_no (by clear hnb hna hnb2 hb ha hb2; simp_all)]
        · -- thing 0
          refine vecE ?_; first | (rw [mergeStates_ok hok]; done) | (rw [mergeStates_no (by clear hnb hna hnb2 hb ha hb2; simp_all)]; first | done | rfl)
      · -- c20 False
        have ho1 : okState base = true := by simpa using s11
        have ho2 : okState a = true := by simpa using s16
        have ho3 : okState b = true := by simpa using c20
        have hok : (okState base && okState a && okState b) = true := by rw [ho1, ho2, ho3]; rfl
        have hl1 := state_len ho1; have hl2 := state_len ho2; have hl3 := state_len ho3
        refine AC.skip ?_
        refine AC.seq ?_
        refine AC.region ?_
        refine AO.yld _ (Yld.move rfl) rfl rfl rfl ?_
        refine AO.yld _ (Yld.move rfl) rfl rfl rfl ?_
        refine AO.yld _ (Yld.move rfl) rfl rfl rfl ?_
        refine AO.callW (wantedN rfl) [0] [] [0] rfl rfl Try.call44 rfl (spec_l27Merge_c (by assumption) (by assumption) (by assumption)) (.flat (.view rfl rfl (.view rfl rfl (.view rfl rfl .nil))) (fun _ => by simp [AV.Flat, AV.FlatL, PV.Flat, PV.FlatL]) (fun _ => ⟨flat_map flatNV _, trivial⟩)) rfl (fun _ => rfl) trivial rfl (fun _ => rfl) (fun _ => rfl) (fun _ _ => ?_)
        refine AO.yld _ (Yld.extract rfl rfl rfl) rfl rfl rfl ?_
        refine AO.yld _ (Yld.extract rfl rfl rfl) rfl rfl rfl ?_
        refine AO.yld _ (Yld.assign rfl) rfl rfl rfl ?_
        refine AO.yld _ (Yld.assign rfl) rfl rfl rfl ?_
        refine AO.nil ?_
        refine FnE.ret () [0] [0] Try.results9 (RVs.cons (RV.tmp rfl) (RVs.cons (RV.tmp rfl) RVs.nil)) rfl rfl rfl ?_ ?_ ⟨⟨_, rfl, ?_⟩, trivial⟩
        · -- holds
          trivial
        · -- value
          refine tupE ?_; first | (rw [mergeStates_ok hok]; done) | rw [mergeStates_no (by clear hnb hna hnb2 hb ha hb2; simp_all)]
        · -- thing 0
          refine vecE ?_; first | (rw [mergeStates_ok hok]; done) | (rw [mergeStates_no (by clear hnb hna hnb2 hb ha hb2; simp_all)]; first | done | rfl)

end Go.Proofs.Ytjifkcajmmchdaa
