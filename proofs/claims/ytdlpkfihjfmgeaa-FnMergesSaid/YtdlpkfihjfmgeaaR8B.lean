/- Contracts of functions of the program, each by a walk of its text in the calculus V. -/
import Derived.Test.YtdlpkfihjfmgeaaR8A
import Derived.Test.YtdlpkfihjfmgeaaV29
set_option linter.all false
set_option linter.unusedSimpArgs false
set_option linter.unnecessarySimpa false
set_option linter.unusedVariables false
namespace Go.Proofs.Ytdlpkfihjfmgeaa
open Go Go.V

theorem laws_r8Long_c {code more : List UInt8} :
    Pure Try.prog 16 [.sl 1 (code.map encB), .sl 1 (more.map encB)] (.v (.bool (decide ((code.length : Int) > 1048576) || decide ((more.length : Int) > 1048576)))) := by
  refine Pure.intro Try.func16 rfl Try.ntmps16 rfl rfl (fun w => ?_)
  refine AC.seq ?_
  refine AC.region ?_
  refine AO.yld _ (Yld.assign rfl) rfl rfl rfl ?_
  refine AO.nil ?_
  refine AC.seq ?_
  refine AC.region ?_
  refine AO.yld _ (Yld.move rfl) rfl rfl rfl ?_
  refine AO.yld _ (Yld.len Try.underlying37 rfl rfl) rfl rfl rfl ?_
  refine AO.yld _ (Yld.int rfl rfl rfl) rfl rfl rfl ?_
  refine AO.yld _ (Yld.move rfl) rfl rfl rfl ?_
  refine AO.splitAt 8 _ rfl (fun s8 => ?_) (fun s8 => ?_)
  · -- s8 True
    refine AO.skipF rfl rfl rfl rfl rfl ?_
    refine AO.skipF rfl rfl rfl rfl rfl ?_
    refine AO.skipF rfl rfl rfl rfl rfl ?_
    refine AO.yld _ (Yld.pickT rfl rfl) rfl rfl rfl ?_
    refine AO.yld _ (Yld.assign rfl) rfl rfl rfl ?_
    refine AO.nil ?_
    refine Pure.ret Try.results16 (RVs.cons (RV.tmp rfl) RVs.nil) rfl ?_
    refine cb ?_; simp only [List.length_map] at *; first | (simp_all; done) | grind
  · -- s8 False
    refine AO.yldG _ (Yld.move rfl) rfl rfl rfl rfl rfl ?_
    refine AO.yldG _ (Yld.len Try.underlying37 rfl rfl) rfl rfl rfl rfl rfl ?_
    refine AO.yldG _ (Yld.int rfl rfl rfl) rfl rfl rfl rfl rfl ?_
    refine AO.yld _ (Yld.pickF rfl rfl) rfl rfl rfl ?_
    refine AO.yld _ (Yld.assign rfl) rfl rfl rfl ?_
    refine AO.nil ?_
    refine Pure.ret Try.results16 (RVs.cons (RV.tmp rfl) RVs.nil) rfl ?_
    refine cb ?_; simp only [List.length_map] at *; first | (simp_all; done) | grind

theorem laws_r8At_c {l : List UInt8} {k n : Int} (h0 : 0 ≤ k) :
    Pure Try.prog 24 [.sl 1 (l.map encB), .v (.int .i64 k), .v (.int .i64 n)] (.v (.int .i64 (r8At l k n))) := by
  have hM : (l.map encB).length = l.length := List.length_map ..
  refine Pure.intro Try.func24 rfl Try.ntmps24 rfl rfl (fun w => ?_)
  refine AC.seq ?_
  refine AC.region ?_
  refine AO.yld _ (Yld.assign rfl) rfl rfl rfl ?_
  refine AO.nil ?_
  refine AC.seq ?_
  refine AC.seq ?_
  refine AC.region ?_
  refine AO.yld _ (Yld.move rfl) rfl rfl rfl ?_
  refine AO.yld _ (Yld.int rfl rfl rfl) rfl rfl rfl ?_
  refine AO.yld _ (Yld.move rfl) rfl rfl rfl ?_
  refine AO.splitAt 9 _ rfl (fun s9 => ?_) (fun s9 => ?_)
  · -- s9 True
    refine AO.skipF rfl rfl rfl rfl rfl ?_
    refine AO.skipF rfl rfl rfl rfl rfl ?_
    refine AO.skipF rfl rfl rfl rfl rfl ?_
    refine AO.skipF rfl rfl rfl rfl rfl ?_
    refine AO.yld _ (Yld.pickT rfl rfl) rfl rfl rfl ?_
    refine AO.nil ?_
    refine AC.condT rfl ?_
    refine AC.seq ?_
    refine AC.region ?_
    refine AO.yld _ (Yld.assign rfl) rfl rfl rfl ?_
    refine AO.nil ?_
    refine Pure.ret Try.results24 (RVs.cons (RV.tmp rfl) RVs.nil) rfl ?_
    first | exact ci (r8At_hit hn1 hk hc).symm | exact ci (r8At_no (.inl (by simpa using s9))).symm | exact ci (r8At_no (.inr (by have h := c14; rw [hM] at h; simpa using h))).symm
  · -- s9 False
    refine AO.yldG _ (Yld.move rfl) rfl rfl rfl rfl rfl ?_
    refine AO.yldG _ (Yld.move rfl) rfl rfl rfl rfl rfl ?_
    refine AO.yldG _ (Yld.len Try.underlying37 rfl rfl) rfl rfl rfl rfl rfl ?_
    refine AO.yldG _ (Yld.int rfl rfl rfl) rfl rfl rfl rfl rfl ?_
    refine AO.yld _ (Yld.pickF rfl rfl) rfl rfl rfl ?_
    refine AO.nil ?_
    refine AC.cond _ rfl (fun c14 => ?_) (fun c14 => ?_)
    · -- c14 True
      refine AC.seq ?_
      refine AC.region ?_
      refine AO.yld _ (Yld.assign rfl) rfl rfl rfl ?_
      refine AO.nil ?_
      refine Pure.ret Try.results24 (RVs.cons (RV.tmp rfl) RVs.nil) rfl ?_
      first | exact ci (r8At_hit hn1 hk hc).symm | exact ci (r8At_no (.inl (by simpa using s9))).symm | exact ci (r8At_no (.inr (by have h := c14; rw [hM] at h; simpa using h))).symm
    · -- c14 False
      have hn1 : ¬ n ≤ 1 := by simpa using s9
      have hk : k < l.length := by have h := c14; rw [hM] at h; simp at h; omega
      obtain ⟨c, hc⟩ := get_some (xs := l) (k := k.toNat) (by omega)
      have hrow := map_row (enc := encB) hc
      refine AC.skip ?_
      refine AC.seq ?_
      refine AC.region ?_
      refine AO.yld _ (Yld.move rfl) rfl rfl rfl ?_
      refine AO.yld _ (Yld.move rfl) rfl rfl rfl ?_
      refine AO.yld _ (Yld.indexSl Try.underlying37 Try.sizeOf5 rfl rfl hrow (by omega)) rfl rfl rfl ?_
      refine AO.yld _ (Yld.load Try.isAgg5 rfl rfl) rfl rfl rfl ?_
      refine AO.yld _ (Yld.convInt Try.underlying5 Try.underlying2 rfl) rfl rfl rfl ?_
      refine AO.yld _ (Yld.move rfl) rfl rfl rfl ?_
      refine AO.yld _ (Yld.rem rfl rfl (by omega)) rfl rfl rfl ?_
      refine AO.yld _ (Yld.assign rfl) rfl rfl rfl ?_
      refine AO.nil ?_
      refine Pure.ret Try.results24 (RVs.cons (RV.tmp rfl) RVs.nil) rfl ?_
      first | exact ci (r8At_hit hn1 hk hc).symm | exact ci (r8At_no (.inl (by simpa using s9))).symm | exact ci (r8At_no (.inr (by have h := c14; rw [hM] at h; simpa using h))).symm

theorem merge_g {base a b c : List NV} {n : Int} (hb : base.length ≤ 1048576) (ha : a.length ≤ 1048576) (hb2 : b.length ≤ 1048576) (hnb : ∀ s ∈ base, s.name.length ≤ 1048576) (hna : ∀ s ∈ a, s.name.length ≤ 1048576) (hnb2 : ∀ s ∈ b, s.name.length ≤ 1048576) (h : mergeStates base a b = (c, n)) :
    FnE (α := Unit) Try.prog 19 [.p (.sl 2 (base.map encNV)), .p (.sl 2 (a.map encNV)), .p (.sl 2 (b.map encNV))] [] [] (fun _ => True) (fun _ => .tup [.h 0, .p (.v (.int .i64 n))]) (fun _ => [(0, .vec 62 2 (c.map encNV))]) := by
  have h9 := impl_MergeStates_c hb ha hb2 hnb hna hnb2
  rw [h] at h9
  exact h9

theorem confl_g {base a b : List NV} {c : Names} {n : Int} (hb : base.length ≤ 1048576) (ha : a.length ≤ 1048576) (hb2 : b.length ≤ 1048576) (hnb : ∀ s ∈ base, s.name.length ≤ 1048576) (hna : ∀ s ∈ a, s.name.length ≤ 1048576) (hnb2 : ∀ s ∈ b, s.name.length ≤ 1048576) (h : conflictsOf base a b = (c, n)) :
    FnE (α := Unit) Try.prog 21 [.p (.sl 2 (base.map encNV)), .p (.sl 2 (a.map encNV)), .p (.sl 2 (b.map encNV))] [] [] (fun _ => True) (fun _ => .tup [.h 0, .p (.v (.int .i64 n))]) (fun _ => [(0, .vec 9 1 (c.map Go.V.encS))]) := by
  have h9 := impl_ConflictsOf_c hb ha hb2 hnb hna hnb2
  rw [h] at h9
  exact h9

set_option maxHeartbeats 2000000 in
theorem laws_FnMerges_c {code more : List UInt8} :
    Pure Try.prog 4 [.sl 1 (code.map encB), .sl 1 (more.map encB)] (.v (.bool true)) := by
  refine Pure.intro Try.func4 rfl Try.ntmps4 rfl rfl (fun w => ?_)
  refine AC.seq ?_
  refine AC.region ?_
  refine AO.yld _ (Yld.assign rfl) rfl rfl rfl ?_
  refine AO.nil ?_
  refine AC.seq ?_
  refine AC.seq ?_
  refine AC.region ?_
  refine AO.yld _ (Yld.move rfl) rfl rfl rfl ?_
  refine AO.yld _ (Yld.move rfl) rfl rfl rfl ?_
  refine AO.yld _ (Yld.call rfl rfl Try.call16 rfl rfl rfl (laws_r8Long_c) rfl) rfl rfl rfl ?_
  refine AO.nil ?_
  refine AC.cond _ rfl (fun c34 => ?_) (fun c34 => ?_)
  · -- c34 True
    refine AC.seq ?_
    refine AC.region ?_
    refine AO.yld _ (Yld.assign rfl) rfl rfl rfl ?_
    refine AO.nil ?_
    refine Pure.ret Try.results4 (RVs.cons (RV.tmp rfl) RVs.nil) rfl ?_
    first | rfl | (rw [mh.2])
  · -- c34 False
    refine AC.skip ?_
    refine AC.seq ?_
    refine AC.region ?_
    refine AO.yld _ (Yld.move rfl) rfl rfl rfl ?_
    refine AO.callW (wantedN rfl) [0] [] [0] rfl rfl Try.call17 rfl (spec_R8State_c) (.own rfl) rfl (fun _ => rfl) trivial rfl (fun _ => rfl) (fun _ => rfl) (fun ms36 hms36 => ?_)
    have okB := hms36.ok (by omega)
    have hlB := hms36.len
    have hnB := hms36.names
    refine AO.yld _ (Yld.assign rfl) rfl rfl rfl ?_
    refine AO.nil ?_
    refine AC.seq ?_
    refine AC.region ?_
    refine AO.yld _ (Yld.move rfl) rfl rfl rfl ?_
    refine AO.yld _ (Yld.move rfl) rfl rfl rfl ?_
    refine AO.freeze 0 rfl ?_
    refine AO.callW (wantedN rfl) [1] [] [0] rfl rfl Try.call18 rfl (spec_R8Changed_c hms36 (by omega)) (.own rfl) rfl (fun _ => rfl) trivial rfl (fun _ => rfl) (fun _ => rfl) (fun ms39 hms39 => ?_)
    have okA := hms39.ok (by omega)
    have hlA := hms39.len
    have hnA := hms39.names
    refine AO.yld _ (Yld.assign rfl) rfl rfl rfl ?_
    refine AO.nil ?_
    refine AC.seq ?_
    refine AC.region ?_
    refine AO.yld _ (Yld.move rfl) rfl rfl rfl ?_
    refine AO.yld _ (Yld.move rfl) rfl rfl rfl ?_
    refine AO.freeze 1 rfl ?_
    refine AO.callW (wantedN rfl) [2] [] [0] rfl rfl Try.call18 rfl (spec_R8Changed_c hms36 (by omega)) (.own rfl) rfl (fun _ => rfl) trivial rfl (fun _ => rfl) (fun _ => rfl) (fun ms42 hms42 => ?_)
    have okC := hms42.ok (by omega)
    have hlC := hms42.len
    have hnC := hms42.names
    have hmc := merge_code okB okA okC
    have hul := mergeSt_len ms36 ms39 ms42
    have hnU : ∀ s ∈ (mergeStates ms36 ms39 ms42).1, s.name.length ≤ 1048576 := by rw [mergeStates_ok (by simp [okB, okA, okC])]; exact merge2_names hnB hnA hnC
    refine AO.yld _ (Yld.assign rfl) rfl rfl rfl ?_
    refine AO.nil ?_
    refine AC.seq ?_
    refine AC.region ?_
    refine AO.yld _ (Yld.move rfl) rfl rfl rfl ?_
    refine AO.yld _ (Yld.move rfl) rfl rfl rfl ?_
    refine AO.yld _ (Yld.move rfl) rfl rfl rfl ?_
    refine AO.freeze 2 rfl ?_
    refine AO.callW (wantedN rfl) [3] [] [0] rfl rfl Try.call19 rfl (merge_g (base := ms36) (a := ms39) (b := ms36) (c := ms39) (n := 0) (by omega) (by omega) (by omega) hnB hnA hnB (merge_left okB okA (by omega))) (.flat (.view rfl rfl (.view rfl rfl (.view rfl rfl .nil))) (fun _ => by simp [AV.Flat, AV.FlatL, PV.Flat, PV.FlatL]) (fun _ => ⟨flat_map flatNV _, trivial⟩)) rfl (fun _ => rfl) trivial rfl (fun _ => rfl) (fun _ => rfl) (fun _ _ => ?_)
    refine AO.yld _ (Yld.move rfl) rfl rfl rfl ?_
    refine AO.yld _ (Yld.extract rfl rfl rfl) rfl rfl rfl ?_
    refine AO.yld _ (Yld.extract rfl rfl rfl) rfl rfl rfl ?_
    refine AO.yld _ (Yld.assign rfl) rfl rfl rfl ?_
    refine AO.yld _ (Yld.assign rfl) rfl rfl rfl ?_
    refine AO.nil ?_
    refine AC.seq ?_
    refine AC.region ?_
    refine AO.yld _ (Yld.move rfl) rfl rfl rfl ?_
    refine AO.yld _ (Yld.move rfl) rfl rfl rfl ?_
    refine AO.yld _ (Yld.move rfl) rfl rfl rfl ?_
    refine AO.callW (wantedN rfl) [4] [] [0] rfl rfl Try.call19 rfl (merge_g (base := ms36) (a := ms36) (b := ms39) (c := ms39) (n := 0) (by omega) (by omega) (by omega) hnB hnB hnA (merge_right okB okA (by omega))) (.flat (.view rfl rfl (.view rfl rfl (.view rfl rfl .nil))) (fun _ => by simp [AV.Flat, AV.FlatL, PV.Flat, PV.FlatL]) (fun _ => ⟨flat_map flatNV _, trivial⟩)) rfl (fun _ => rfl) trivial rfl (fun _ => rfl) (fun _ => rfl) (fun _ _ => ?_)
    refine AO.yld _ (Yld.move rfl) rfl rfl rfl ?_
    refine AO.yld _ (Yld.extract rfl rfl rfl) rfl rfl rfl ?_
    refine AO.yld _ (Yld.extract rfl rfl rfl) rfl rfl rfl ?_
    refine AO.yld _ (Yld.assign rfl) rfl rfl rfl ?_
    refine AO.yld _ (Yld.assign rfl) rfl rfl rfl ?_
    refine AO.nil ?_
    refine AC.seq ?_
    refine AC.region ?_
    refine AO.yld _ (Yld.move rfl) rfl rfl rfl ?_
    refine AO.yld _ (Yld.move rfl) rfl rfl rfl ?_
    refine AO.yld _ (Yld.move rfl) rfl rfl rfl ?_
    refine AO.callW (wantedN rfl) [5] [] [0] rfl rfl Try.call19 rfl (merge_g (base := ms36) (a := ms39) (b := ms39) (c := ms39) (n := 0) (by omega) (by omega) (by omega) hnB hnA hnA (merge_both okB okA (by omega))) (.flat (.view rfl rfl (.view rfl rfl (.view rfl rfl .nil))) (fun _ => by simp [AV.Flat, AV.FlatL, PV.Flat, PV.FlatL]) (fun _ => ⟨flat_map flatNV _, trivial⟩)) rfl (fun _ => rfl) trivial rfl (fun _ => rfl) (fun _ => rfl) (fun _ _ => ?_)
    refine AO.yld _ (Yld.move rfl) rfl rfl rfl ?_
    refine AO.yld _ (Yld.extract rfl rfl rfl) rfl rfl rfl ?_
    refine AO.yld _ (Yld.extract rfl rfl rfl) rfl rfl rfl ?_
    refine AO.yld _ (Yld.assign rfl) rfl rfl rfl ?_
    refine AO.yld _ (Yld.assign rfl) rfl rfl rfl ?_
    refine AO.nil ?_
    refine AC.seq ?_
    refine AC.seq ?_
    refine AC.region ?_
    refine AO.yld _ (Yld.move rfl) rfl rfl rfl ?_
    refine AO.yld _ (Yld.int rfl rfl rfl) rfl rfl rfl ?_
    refine AO.yld _ (Yld.move rfl) rfl rfl rfl ?_
    refine AO.splitAt 66 _ rfl (fun s66 => ?_) (fun s66 => ?_)
    · -- s66 True
      exfalso; revert s66; decide
    · -- s66 False
      refine AO.yldG _ (Yld.move rfl) rfl rfl rfl rfl rfl ?_
      refine AO.yldG _ (Yld.int rfl rfl rfl) rfl rfl rfl rfl rfl ?_
      refine AO.yld _ (Yld.pickF rfl rfl) rfl rfl rfl ?_
      refine AO.yld _ (Yld.move rfl) rfl rfl rfl ?_
      refine AO.splitAt 70 _ rfl (fun s70 => ?_) (fun s70 => ?_)
      · -- s70 True
        exfalso; revert s70; decide
      · -- s70 False
        refine AO.yldG _ (Yld.move rfl) rfl rfl rfl rfl rfl ?_
        refine AO.yldG _ (Yld.int rfl rfl rfl) rfl rfl rfl rfl rfl ?_
        refine AO.yld _ (Yld.pickF rfl rfl) rfl rfl rfl ?_
        refine AO.yld _ (Yld.move rfl) rfl rfl rfl ?_
        refine AO.splitAt 74 _ rfl (fun s74 => ?_) (fun s74 => ?_)
        · -- s74 True
          exfalso; revert s74; decide
        · -- s74 False
          refine AO.yldG _ (Yld.move rfl) rfl rfl rfl rfl rfl ?_
          refine AO.yldG _ (Yld.move rfl) rfl rfl rfl rfl rfl ?_
          refine AO.yldG _ (Yld.call rfl rfl Try.call20 rfl rfl rfl (spec_SameState_c (by omega)) rfl) rfl rfl rfl rfl rfl ?_
          refine AO.yldG _ (Yld.not rfl) rfl rfl rfl rfl rfl ?_
          refine AO.yld _ (Yld.pickF rfl rfl) rfl rfl rfl ?_
          refine AO.yld _ (Yld.move rfl) rfl rfl rfl ?_
          refine AO.splitAt 80 _ rfl (fun s80 => ?_) (fun s80 => ?_)
          · -- s80 True
            exfalso; simp at s80
          · -- s80 False
            refine AO.yldG _ (Yld.move rfl) rfl rfl rfl rfl rfl ?_
            refine AO.yldG _ (Yld.move rfl) rfl rfl rfl rfl rfl ?_
            refine AO.yldG _ (Yld.call rfl rfl Try.call20 rfl rfl rfl (spec_SameState_c (by omega)) rfl) rfl rfl rfl rfl rfl ?_
            refine AO.yldG _ (Yld.not rfl) rfl rfl rfl rfl rfl ?_
            refine AO.yld _ (Yld.pickF rfl rfl) rfl rfl rfl ?_
            refine AO.yld _ (Yld.move rfl) rfl rfl rfl ?_
            refine AO.splitAt 86 _ rfl (fun s86 => ?_) (fun s86 => ?_)
            · -- s86 True
              exfalso; simp at s86
            · -- s86 False
              refine AO.yldG _ (Yld.move rfl) rfl rfl rfl rfl rfl ?_
              refine AO.yldG _ (Yld.move rfl) rfl rfl rfl rfl rfl ?_
              refine AO.yldG _ (Yld.call rfl rfl Try.call20 rfl rfl rfl (spec_SameState_c (by omega)) rfl) rfl rfl rfl rfl rfl ?_
              refine AO.yldG _ (Yld.not rfl) rfl rfl rfl rfl rfl ?_
              refine AO.yld _ (Yld.pickF rfl rfl) rfl rfl rfl ?_
              refine AO.nil ?_
              refine AC.cond _ rfl (fun c91 => ?_) (fun c91 => ?_)
              · -- c91 True
                exfalso; simp at c91
              · -- c91 False
                refine AC.skip ?_
                refine AC.seq ?_
                refine AC.region ?_
                refine AO.yld _ (Yld.move rfl) rfl rfl rfl ?_
                refine AO.yld _ (Yld.move rfl) rfl rfl rfl ?_
                refine AO.yld _ (Yld.move rfl) rfl rfl rfl ?_
                refine AO.callW (wantedN rfl) [6] [] [0] rfl rfl Try.call21 rfl (confl_g (base := ms36) (a := ms39) (b := ms42) (c := conflL ms36 ms39 ms42) (n := 0) (by omega) (by omega) (by omega) hnB hnA hnC (conf_len okB okA okC)) (.flat (.view rfl rfl (.view rfl rfl (.view rfl rfl .nil))) (fun _ => by simp [AV.Flat, AV.FlatL, PV.Flat, PV.FlatL]) (fun _ => ⟨flat_map flatS _, trivial⟩)) rfl (fun _ => rfl) trivial rfl (fun _ => rfl) (fun _ => rfl) (fun _ _ => ?_)
                refine AO.yld _ (Yld.move rfl) rfl rfl rfl ?_
                refine AO.yld _ (Yld.extract rfl rfl rfl) rfl rfl rfl ?_
                refine AO.yld _ (Yld.extract rfl rfl rfl) rfl rfl rfl ?_
                refine AO.yld _ (Yld.assign rfl) rfl rfl rfl ?_
                refine AO.yld _ (Yld.assign rfl) rfl rfl rfl ?_
                refine AO.nil ?_
                refine AC.seq ?_
                refine AC.region ?_
                refine AO.yld _ (Yld.move rfl) rfl rfl rfl ?_
                refine AO.yld _ (Yld.move rfl) rfl rfl rfl ?_
                refine AO.yld _ (Yld.move rfl) rfl rfl rfl ?_
                refine AO.callW (wantedN rfl) [7] [] [0] rfl rfl Try.call21 rfl (confl_g (base := ms36) (a := ms42) (b := ms39) (c := conflL ms36 ms39 ms42) (n := 0) (by omega) (by omega) (by omega) hnB hnC hnA (by rw [conf_len okB okC okA, conflL_swap])) (.flat (.view rfl rfl (.view rfl rfl (.view rfl rfl .nil))) (fun _ => by simp [AV.Flat, AV.FlatL, PV.Flat, PV.FlatL]) (fun _ => ⟨flat_map flatS _, trivial⟩)) rfl (fun _ => rfl) trivial rfl (fun _ => rfl) (fun _ => rfl) (fun _ _ => ?_)
                refine AO.yld _ (Yld.move rfl) rfl rfl rfl ?_
                refine AO.yld _ (Yld.extract rfl rfl rfl) rfl rfl rfl ?_
                refine AO.yld _ (Yld.extract rfl rfl rfl) rfl rfl rfl ?_
                refine AO.yld _ (Yld.assign rfl) rfl rfl rfl ?_
                refine AO.yld _ (Yld.assign rfl) rfl rfl rfl ?_
                refine AO.nil ?_
                refine AC.seq ?_
                refine AC.region ?_
                refine AO.yld _ (Yld.move rfl) rfl rfl rfl ?_
                refine AO.yld _ (Yld.move rfl) rfl rfl rfl ?_
                refine AO.yld _ (Yld.move rfl) rfl rfl rfl ?_
                refine AO.callW (wantedN rfl) [8] [] [0] rfl rfl Try.call19 rfl (merge_g (base := ms36) (a := ms39) (b := ms42) (c := (mergeStates ms36 ms39 ms42).1) (n := (mergeStates ms36 ms39 ms42).2) (by omega) (by omega) (by omega) hnB hnA hnC rfl) (.flat (.view rfl rfl (.view rfl rfl (.view rfl rfl .nil))) (fun _ => by simp [AV.Flat, AV.FlatL, PV.Flat, PV.FlatL]) (fun _ => ⟨flat_map flatNV _, trivial⟩)) rfl (fun _ => rfl) trivial rfl (fun _ => rfl) (fun _ => rfl) (fun _ _ => ?_)
                refine AO.yld _ (Yld.move rfl) rfl rfl rfl ?_
                refine AO.yld _ (Yld.extract rfl rfl rfl) rfl rfl rfl ?_
                refine AO.yld _ (Yld.extract rfl rfl rfl) rfl rfl rfl ?_
                refine AO.yld _ (Yld.assign rfl) rfl rfl rfl ?_
                refine AO.yld _ (Yld.assign rfl) rfl rfl rfl ?_
                refine AO.nil ?_
                refine AC.seq ?_
                refine AC.region ?_
                refine AO.yld _ (Yld.move rfl) rfl rfl rfl ?_
                refine AO.yld _ (Yld.move rfl) rfl rfl rfl ?_
                refine AO.yld _ (Yld.move rfl) rfl rfl rfl ?_
                refine AO.callW (wantedN rfl) [9] [] [0] rfl rfl Try.call19 rfl (merge_g (base := ms36) (a := ms42) (b := ms39) (c := (mergeStates ms36 ms39 ms42).1) (n := (mergeStates ms36 ms39 ms42).2) (by omega) (by omega) (by omega) hnB hnC hnA (by rw [← merge_swap okB okA okC])) (.flat (.view rfl rfl (.view rfl rfl (.view rfl rfl .nil))) (fun _ => by simp [AV.Flat, AV.FlatL, PV.Flat, PV.FlatL]) (fun _ => ⟨flat_map flatNV _, trivial⟩)) rfl (fun _ => rfl) trivial rfl (fun _ => rfl) (fun _ => rfl) (fun _ _ => ?_)
                refine AO.yld _ (Yld.move rfl) rfl rfl rfl ?_
                refine AO.yld _ (Yld.extract rfl rfl rfl) rfl rfl rfl ?_
                refine AO.yld _ (Yld.extract rfl rfl rfl) rfl rfl rfl ?_
                refine AO.yld _ (Yld.assign rfl) rfl rfl rfl ?_
                refine AO.yld _ (Yld.assign rfl) rfl rfl rfl ?_
                refine AO.nil ?_
                refine AC.seq ?_
                refine AC.seq ?_
                refine AC.region ?_
                refine AO.yld _ (Yld.move rfl) rfl rfl rfl ?_
                refine AO.yld _ (Yld.int rfl rfl rfl) rfl rfl rfl ?_
                refine AO.yld _ (Yld.move rfl) rfl rfl rfl ?_
                refine AO.splitAt 122 _ rfl (fun s122 => ?_) (fun s122 => ?_)
                · -- s122 True
                  exfalso; revert s122; decide
                · -- s122 False
                  refine AO.yldG _ (Yld.move rfl) rfl rfl rfl rfl rfl ?_
                  refine AO.yldG _ (Yld.int rfl rfl rfl) rfl rfl rfl rfl rfl ?_
                  refine AO.yld _ (Yld.pickF rfl rfl) rfl rfl rfl ?_
                  refine AO.yld _ (Yld.move rfl) rfl rfl rfl ?_
                  refine AO.splitAt 126 _ rfl (fun s126 => ?_) (fun s126 => ?_)
                  · -- s126 True
                    exfalso; revert s126; decide
                  · -- s126 False
                    refine AO.yldG _ (Yld.move rfl) rfl rfl rfl rfl rfl ?_
                    refine AO.yldG _ (Yld.len Try.underlying42 rfl rfl) rfl rfl rfl rfl rfl ?_
                    refine AO.yldG _ (Yld.move rfl) rfl rfl rfl rfl rfl ?_
                    refine AO.yldG _ (Yld.len Try.underlying42 rfl rfl) rfl rfl rfl rfl rfl ?_
                    refine AO.yldG _ (Yld.int rfl rfl rfl) rfl rfl rfl rfl rfl ?_
                    refine AO.yld _ (Yld.pickF rfl rfl) rfl rfl rfl ?_
                    refine AO.yld _ (Yld.move rfl) rfl rfl rfl ?_
                    refine AO.splitAt 133 _ rfl (fun s133 => ?_) (fun s133 => ?_)
                    · -- s133 True
                      exfalso; simp at s133
                    · -- s133 False
                      refine AO.yldG _ (Yld.move rfl) rfl rfl rfl rfl rfl ?_
                      refine AO.yldG _ (Yld.move rfl) rfl rfl rfl rfl rfl ?_
                      refine AO.yldG _ (Yld.int rfl rfl rfl) rfl rfl rfl rfl rfl ?_
                      refine AO.yld _ (Yld.pickF rfl rfl) rfl rfl rfl ?_
                      refine AO.yld _ (Yld.move rfl) rfl rfl rfl ?_
                      refine AO.splitAt 138 _ rfl (fun s138 => ?_) (fun s138 => ?_)
                      · -- s138 True
                        exfalso; simp at s138
                      · -- s138 False
                        refine AO.yldG _ (Yld.move rfl) rfl rfl rfl rfl rfl ?_
                        refine AO.yldG _ (Yld.int rfl rfl rfl) rfl rfl rfl rfl rfl ?_
                        refine AO.yldG _ (Yld.move rfl) rfl rfl rfl rfl rfl ?_
                        refine AO.yldG _ (Yld.len Try.underlying42 rfl rfl) rfl rfl rfl rfl rfl ?_
                        refine AO.yldG _ (Yld.int rfl rfl rfl) rfl rfl rfl rfl rfl ?_
                        refine AO.yldG _ (Yld.bne Try.underlying4 rfl rfl) rfl rfl rfl rfl rfl ?_
                        refine AO.yld _ (Yld.pickF rfl rfl) rfl rfl rfl ?_
                        refine AO.yld _ (Yld.move rfl) rfl rfl rfl ?_
                        refine AO.splitAt 146 _ rfl (fun s146 => ?_) (fun s146 => ?_)
                        · -- s146 True
                          exfalso; rw [List.length_map, guard6 hmc.1] at s146; cases s146
                        · -- s146 False
                          refine AO.yldG _ (Yld.move rfl) rfl rfl rfl rfl rfl ?_
                          refine AO.yldG _ (Yld.int rfl rfl rfl) rfl rfl rfl rfl rfl ?_
                          refine AO.yldG _ (Yld.move rfl) rfl rfl rfl rfl rfl ?_
                          refine AO.splitAt 149 _ rfl (fun s149 => ?_) (fun s149 => ?_)
                          · -- s149 True
                            refine AO.yldG _ (Yld.move rfl) rfl rfl rfl rfl rfl ?_
                            refine AO.yldG _ (Yld.move rfl) rfl rfl rfl rfl rfl ?_
                            refine AO.yldG _ (Yld.call rfl rfl Try.call20 rfl rfl rfl (spec_SameState_c (by omega)) rfl) rfl rfl rfl rfl rfl ?_
                            refine AO.yldG _ (Yld.not rfl) rfl rfl rfl rfl rfl ?_
                            refine AO.yldG _ (Yld.move rfl) rfl rfl rfl rfl rfl ?_
                            refine AO.splitAt 154 _ rfl (fun s154 => ?_) (fun s154 => ?_)
                            · -- s154 True
                              exfalso; simp at s154
                            · -- s154 False
                              refine AO.yldG _ (Yld.move rfl) rfl rfl rfl rfl rfl ?_
                              refine AO.yldG _ (Yld.call rfl rfl Try.call22 rfl rfl rfl (spec_ValidState_c (by omega) hnU) rfl) rfl rfl rfl rfl rfl ?_
                              refine AO.yldG _ (Yld.not rfl) rfl rfl rfl rfl rfl ?_
                              refine AO.yldG _ (Yld.pickF rfl rfl) rfl rfl rfl rfl rfl ?_
                              refine AO.yldG _ (Yld.pickT rfl rfl) rfl rfl rfl rfl rfl ?_
                              refine AO.yld _ (Yld.pickF rfl rfl) rfl rfl rfl ?_
                              refine AO.nil ?_
                              refine AC.cond _ rfl (fun c160 => ?_) (fun c160 => ?_)
                              · -- c160 True
                                exfalso; have h7 : (mergeStates ms36 ms39 ms42).2 = 0 := (by simpa using s149); have h8 := hmc.2 h7; rw [h8] at c160; cases c160
                              · -- c160 False
                                clear hmc hul hnU
                                generalize mergeStates ms36 ms39 ms42 = u9
                                generalize conflL ms36 ms39 ms42 = cf9
                                refine AC.skip ?_
                                refine AC.seq ?_
                                refine AC.region ?_
                                refine AO.yld _ (Yld.move rfl) rfl rfl rfl ?_
                                refine AO.callW (wantedN rfl) [10] [] [0] rfl rfl Try.call23 rfl (spec_R8History_c) (.own rfl) rfl (fun _ => rfl) trivial rfl (fun _ => rfl) (fun _ => rfl) (fun vs162 hvs162 => ?_)
                                have hok := hvs162.ok
                                have hgd := vers_good hok
                                have hvl := hvs162.1
                                refine AO.yld _ (Yld.assign rfl) rfl rfl rfl ?_
                                refine AO.nil ?_
                                refine AC.seq ?_
                                refine AC.region ?_
                                refine AO.yld _ (Yld.move rfl) rfl rfl rfl ?_
                                refine AO.yld _ (Yld.len Try.underlying46 rfl rfl) rfl rfl rfl ?_
                                refine AO.yld _ (Yld.assign rfl) rfl rfl rfl ?_
                                refine AO.nil ?_
                                refine AC.seq ?_
                                refine AC.seq ?_
                                refine AC.region ?_
                                refine AO.yld _ (Yld.move rfl) rfl rfl rfl ?_
                                refine AO.yld _ (Yld.int rfl rfl rfl) rfl rfl rfl ?_
                                refine AO.nil ?_
                                refine AC.cond _ rfl (fun c166 => ?_) (fun c166 => ?_)
                                · -- c166 True
                                  refine AC.seq ?_
                                  refine AC.region ?_
                                  refine AO.yld _ (Yld.assign rfl) rfl rfl rfl ?_
                                  refine AO.nil ?_
                                  refine Pure.ret Try.results4 (RVs.cons (RV.tmp rfl) RVs.nil) rfl ?_
                                  first | rfl | (rw [mh.2])
                                · -- c166 False
                                  have hM : (vs162.map encVer).length = vs162.length := List.length_map ..
                                  have hn1 : 1 ≤ ((vs162.map encVer).length : Int) := by have h := c166; simp only [beq_eq_false_iff_ne, ne_eq] at h; omega
                                  have hr0 := r8At_lim (l := more) (k := 0) (n := ((vs162.map encVer).length : Int)) hn1
                                  have hr1 := r8At_lim (l := more) (k := 1) (n := ((vs162.map encVer).length : Int)) hn1
                                  have hip : inVers vs162 (1 + r8At more 0 ((vs162.map encVer).length : Int)) = true := by simp only [inVers, Bool.and_eq_true, decide_eq_true_eq]; omega
                                  have hiq : inVers vs162 (1 + r8At more 1 ((vs162.map encVer).length : Int)) = true := by simp only [inVers, Bool.and_eq_true, decide_eq_true_eq]; omega
                                  have hc1 : commonAncestor vs162 (1 + r8At more 0 ((vs162.map encVer).length : Int)) (1 + r8At more 1 ((vs162.map encVer).length : Int)) = (commonA vs162 (1 + r8At more 0 ((vs162.map encVer).length : Int)) (1 + r8At more 1 ((vs162.map encVer).length : Int)), 0) := by unfold commonAncestor; rw [if_pos hok, if_pos (by rw [hip, hiq]; rfl)]
                                  have hc2 : commonAncestor vs162 (1 + r8At more 1 ((vs162.map encVer).length : Int)) (1 + r8At more 0 ((vs162.map encVer).length : Int)) = (commonA vs162 (1 + r8At more 0 ((vs162.map encVer).length : Int)) (1 + r8At more 1 ((vs162.map encVer).length : Int)), 0) := by unfold commonAncestor; rw [if_pos hok, if_pos (by rw [hip, hiq]; rfl), common_symm hok (by omega) (by omega)]
                                  have hcl := common_lim hok (a := (1 + r8At more 0 ((vs162.map encVer).length : Int))) (b := (1 + r8At more 1 ((vs162.map encVer).length : Int))) (by omega) (by omega)
                                  refine AC.skip ?_
                                  refine AC.seq ?_
                                  refine AC.region ?_
                                  refine AO.yld _ (Yld.move rfl) rfl rfl rfl ?_
                                  refine AO.yld _ (Yld.move rfl) rfl rfl rfl ?_
                                  refine AO.yld _ (Yld.call rfl rfl Try.call24 rfl rfl rfl (laws_r8At_c (by omega)) rfl) rfl rfl rfl ?_
                                  refine AO.yld _ (Yld.add rfl rfl (by omega) (by omega)) rfl rfl rfl ?_
                                  refine AO.yld _ (Yld.assign rfl) rfl rfl rfl ?_
                                  refine AO.nil ?_
                                  refine AC.seq ?_
                                  refine AC.region ?_
                                  refine AO.yld _ (Yld.move rfl) rfl rfl rfl ?_
                                  refine AO.yld _ (Yld.move rfl) rfl rfl rfl ?_
                                  refine AO.yld _ (Yld.call rfl rfl Try.call24 rfl rfl rfl (laws_r8At_c (by omega)) rfl) rfl rfl rfl ?_
                                  refine AO.yld _ (Yld.add rfl rfl (by omega) (by omega)) rfl rfl rfl ?_
                                  refine AO.yld _ (Yld.assign rfl) rfl rfl rfl ?_
                                  refine AO.nil ?_
                                  refine AC.seq ?_
                                  refine AC.region ?_
                                  refine AO.yld _ (Yld.move rfl) rfl rfl rfl ?_
                                  refine AO.yld _ (Yld.move rfl) rfl rfl rfl ?_
                                  refine AO.yld _ (Yld.move rfl) rfl rfl rfl ?_
                                  refine AO.freeze 10 rfl ?_
                                  refine AO.yld _ (Yld.call rfl rfl Try.call25 rfl rfl rfl (impl_CommonAncestor_c hgd) rfl) rfl rfl rfl ?_
                                  refine AO.yld _ (Yld.move rfl) rfl rfl rfl ?_
                                  refine AO.yld _ (Yld.extract rfl rfl rfl) rfl rfl rfl ?_
                                  refine AO.yld _ (Yld.extract rfl rfl rfl) rfl rfl rfl ?_
                                  refine AO.yld _ (Yld.assign rfl) rfl rfl rfl ?_
                                  refine AO.yld _ (Yld.assign rfl) rfl rfl rfl ?_
                                  refine AO.nil ?_
                                  refine AC.seq ?_
                                  refine AC.region ?_
                                  refine AO.yld _ (Yld.move rfl) rfl rfl rfl ?_
                                  refine AO.yld _ (Yld.move rfl) rfl rfl rfl ?_
                                  refine AO.yld _ (Yld.move rfl) rfl rfl rfl ?_
                                  refine AO.yld _ (Yld.call rfl rfl Try.call25 rfl rfl rfl (impl_CommonAncestor_c hgd) rfl) rfl rfl rfl ?_
                                  refine AO.yld _ (Yld.move rfl) rfl rfl rfl ?_
                                  refine AO.yld _ (Yld.extract rfl rfl rfl) rfl rfl rfl ?_
                                  refine AO.yld _ (Yld.extract rfl rfl rfl) rfl rfl rfl ?_
                                  refine AO.yld _ (Yld.assign rfl) rfl rfl rfl ?_
                                  refine AO.yld _ (Yld.assign rfl) rfl rfl rfl ?_
                                  refine AO.nil ?_
                                  refine AC.seq ?_
                                  refine AC.region ?_
                                  refine AO.yld _ (Yld.move rfl) rfl rfl rfl ?_
                                  refine AO.yld _ (Yld.move rfl) rfl rfl rfl ?_
                                  refine AO.yld _ (Yld.move rfl) rfl rfl rfl ?_
                                  refine AO.callW (wantedN rfl) [11] [] [0] rfl rfl Try.call26 rfl (impl_MergeVersions_c (a := (1 + r8At more 0 ((vs162.map encVer).length : Int))) (b := (1 + r8At more 1 ((vs162.map encVer).length : Int))) (memo := [98, 111, 116, 104]) hgd (by decide)) (.flat (.view rfl rfl (.view rfl rfl (.view rfl rfl (.view rfl rfl .nil)))) (fun _ => by simp [AV.Flat, AV.FlatL, PV.Flat, PV.FlatL]) (fun _ => ⟨vers_flat, trivial⟩)) rfl (fun _ => rfl) trivial rfl (fun _ => rfl) (fun _ => rfl) (fun _ _ => ?_)
                                  refine AO.yld _ (Yld.move rfl) rfl rfl rfl ?_
                                  refine AO.yld _ (Yld.extract rfl rfl rfl) rfl rfl rfl ?_
                                  refine AO.yld _ (Yld.extract rfl rfl rfl) rfl rfl rfl ?_
                                  refine AO.yld _ (Yld.assign rfl) rfl rfl rfl ?_
                                  refine AO.yld _ (Yld.assign rfl) rfl rfl rfl ?_
                                  refine AO.nil ?_
                                  refine AC.seq ?_
                                  refine AC.seq ?_
                                  refine AC.region ?_
                                  rw [hc1, hc2]
                                  refine AO.yld _ (Yld.move rfl) rfl rfl rfl ?_
                                  refine AO.yld _ (Yld.int rfl rfl rfl) rfl rfl rfl ?_
                                  refine AO.yld _ (Yld.move rfl) rfl rfl rfl ?_
                                  refine AO.splitAt 198 _ rfl (fun s198 => ?_) (fun s198 => ?_)
                                  · -- s198 True
                                    exfalso; simp at s198
                                  · -- s198 False
                                    refine AO.yldG _ (Yld.move rfl) rfl rfl rfl rfl rfl ?_
                                    refine AO.yldG _ (Yld.int rfl rfl rfl) rfl rfl rfl rfl rfl ?_
                                    refine AO.yld _ (Yld.pickF rfl rfl) rfl rfl rfl ?_
                                    refine AO.yld _ (Yld.move rfl) rfl rfl rfl ?_
                                    refine AO.splitAt 202 _ rfl (fun s202 => ?_) (fun s202 => ?_)
                                    · -- s202 True
                                      exfalso; simp at s202
                                    · -- s202 False
                                      refine AO.yldG _ (Yld.move rfl) rfl rfl rfl rfl rfl ?_
                                      refine AO.yldG _ (Yld.move rfl) rfl rfl rfl rfl rfl ?_
                                      refine AO.yldG _ (Yld.int rfl rfl rfl) rfl rfl rfl rfl rfl ?_
                                      refine AO.yld _ (Yld.pickF rfl rfl) rfl rfl rfl ?_
                                      refine AO.yld _ (Yld.move rfl) rfl rfl rfl ?_
                                      refine AO.splitAt 207 _ rfl (fun s207 => ?_) (fun s207 => ?_)
                                      · -- s207 True
                                        exfalso; simp at s207
                                      · -- s207 False
                                        refine AO.yldG _ (Yld.move rfl) rfl rfl rfl rfl rfl ?_
                                        refine AO.yldG _ (Yld.int rfl rfl rfl) rfl rfl rfl rfl rfl ?_
                                        refine AO.yld _ (Yld.pickF rfl rfl) rfl rfl rfl ?_
                                        refine AO.yld _ (Yld.move rfl) rfl rfl rfl ?_
                                        refine AO.splitAt 211 _ rfl (fun s211 => ?_) (fun s211 => ?_)
                                        · -- s211 True
                                          exfalso; have h9 := s211; simp only [decide_eq_true_eq] at h9; omega
                                        · -- s211 False
                                          refine AO.yldG _ (Yld.move rfl) rfl rfl rfl rfl rfl ?_
                                          refine AO.yldG _ (Yld.move rfl) rfl rfl rfl rfl rfl ?_
                                          refine AO.yldG _ (Yld.move rfl) rfl rfl rfl rfl rfl ?_
                                          refine AO.yldG _ (Yld.min2 rfl rfl) rfl rfl rfl rfl rfl ?_
                                          refine AO.yldG _ (Yld.int rfl rfl rfl) rfl rfl rfl rfl rfl ?_
                                          refine AO.yld _ (Yld.pickF rfl rfl) rfl rfl rfl ?_
                                          refine AO.nil ?_
                                          refine AC.cond _ rfl (fun c217 => ?_) (fun c217 => ?_)
                                          · -- c217 True
                                            exfalso; have h9 := c217; simp only [decide_eq_true_eq] at h9; omega
                                          · -- c217 False
                                            refine AC.skip ?_
                                            refine AC.seq ?_
                                            refine AC.region ?_
                                            refine AO.yld _ (Yld.move rfl) rfl rfl rfl ?_
                                            refine AO.yld _ (Yld.int rfl rfl rfl) rfl rfl rfl ?_
                                            refine AO.yld _ (Yld.move rfl) rfl rfl rfl ?_
                                            refine AO.splitAt 220 _ rfl (fun s220 => ?_) (fun s220 => ?_)
                                            · -- s220 True
                                              refine AO.skipF rfl rfl rfl rfl rfl ?_
                                              refine AO.skipF rfl rfl rfl rfl rfl ?_
                                              refine AO.skipF rfl rfl rfl rfl rfl ?_
                                              refine AO.skipF rfl rfl rfl rfl rfl ?_
                                              refine AO.skipF rfl rfl rfl rfl rfl ?_
                                              refine AO.skipF rfl rfl rfl rfl rfl ?_
                                              refine AO.skipU rfl rfl rfl rfl rfl ?_
                                              refine AO.skipU rfl rfl rfl rfl rfl ?_
                                              refine AO.skipF rfl rfl rfl rfl rfl ?_
                                              refine AO.yld _ (Yld.pickT rfl rfl) rfl rfl rfl ?_
                                              refine AO.yld _ (Yld.assign rfl) rfl rfl rfl ?_
                                              refine AO.nil ?_
                                              refine Pure.ret Try.results4 (RVs.cons (RV.tmp rfl) RVs.nil) rfl ?_
                                              first | rfl | (rw [mh.2])
                                            · -- s220 False
                                              have mh := merge_hist hok hip hiq (memo := [98, 111, 116, 104]) (by decide) (by simpa using s220)
                                              refine AO.yldG _ (Yld.move rfl) rfl rfl rfl rfl rfl ?_
                                              refine AO.yldG _ (Yld.lenV Try.underlying46 rfl rfl) rfl rfl rfl rfl rfl ?_
                                              refine AO.yldG _ (Yld.move rfl) rfl rfl rfl rfl rfl ?_
                                              refine AO.yldG _ (Yld.add rfl rfl (by omega) (by omega)) rfl rfl rfl rfl rfl ?_
                                              refine AO.yldG _ (Yld.int rfl rfl rfl) rfl rfl rfl rfl rfl ?_
                                              refine AO.yldG _ (Yld.move rfl) rfl rfl rfl rfl rfl ?_
                                              refine AO.splitAt 226 _ rfl (fun s226 => ?_) (fun s226 => ?_)
                                              · -- s226 True
                                                refine AO.yldG _ (Yld.move rfl) rfl rfl rfl rfl rfl ?_
                                                refine AO.yldG _ (Yld.call rfl rfl Try.call27 rfl rfl rfl (spec_ValidHistory_c (mergeV_good hgd (by decide))) rfl) rfl rfl rfl rfl rfl ?_
                                                refine AO.yldG _ (Yld.pickT rfl rfl) rfl rfl rfl rfl rfl ?_
                                                refine AO.yld _ (Yld.pickF rfl rfl) rfl rfl rfl ?_
                                                refine AO.yld _ (Yld.assign rfl) rfl rfl rfl ?_
                                                refine AO.nil ?_
                                                refine Pure.ret Try.results4 (RVs.cons (RV.tmp rfl) RVs.nil) rfl ?_
                                                first | rfl | (rw [mh.2])
                                              · -- s226 False
                                                exfalso; have h9 := s226; rw [List.length_map, mh.1] at h9; simp at h9
                          · -- s149 False
                            clear hmc hul hnU
                            generalize mergeStates ms36 ms39 ms42 = u9
                            generalize conflL ms36 ms39 ms42 = cf9
                            refine AO.skipT rfl rfl rfl rfl rfl ?_
                            refine AO.skipT rfl rfl rfl rfl rfl ?_
                            refine AO.skipT rfl rfl rfl rfl rfl ?_
                            refine AO.skipT rfl rfl rfl rfl rfl ?_
                            refine AO.skipT rfl rfl rfl rfl rfl ?_
                            refine AO.skipU rfl rfl rfl rfl rfl ?_
                            refine AO.skipU rfl rfl rfl rfl rfl ?_
                            refine AO.skipU rfl rfl rfl rfl rfl ?_
                            refine AO.skipT rfl rfl rfl rfl rfl ?_
                            refine AO.yldG _ (Yld.pickF rfl rfl) rfl rfl rfl rfl rfl ?_
                            refine AO.yld _ (Yld.pickF rfl rfl) rfl rfl rfl ?_
                            refine AO.nil ?_
                            refine AC.condF rfl ?_
                            refine AC.skip ?_
                            refine AC.seq ?_
                            refine AC.region ?_
                            refine AO.yld _ (Yld.move rfl) rfl rfl rfl ?_
                            refine AO.callW (wantedN rfl) [10] [] [0] rfl rfl Try.call23 rfl (spec_R8History_c) (.own rfl) rfl (fun _ => rfl) trivial rfl (fun _ => rfl) (fun _ => rfl) (fun vs162 hvs162 => ?_)
                            have hok := hvs162.ok
                            have hgd := vers_good hok
                            have hvl := hvs162.1
                            refine AO.yld _ (Yld.assign rfl) rfl rfl rfl ?_
                            refine AO.nil ?_
                            refine AC.seq ?_
                            refine AC.region ?_
                            refine AO.yld _ (Yld.move rfl) rfl rfl rfl ?_
                            refine AO.yld _ (Yld.len Try.underlying46 rfl rfl) rfl rfl rfl ?_
                            refine AO.yld _ (Yld.assign rfl) rfl rfl rfl ?_
                            refine AO.nil ?_
                            refine AC.seq ?_
                            refine AC.seq ?_
                            refine AC.region ?_
                            refine AO.yld _ (Yld.move rfl) rfl rfl rfl ?_
                            refine AO.yld _ (Yld.int rfl rfl rfl) rfl rfl rfl ?_
                            refine AO.nil ?_
                            refine AC.cond _ rfl (fun c166 => ?_) (fun c166 => ?_)
                            · -- c166 True
                              refine AC.seq ?_
                              refine AC.region ?_
                              refine AO.yld _ (Yld.assign rfl) rfl rfl rfl ?_
                              refine AO.nil ?_
                              refine Pure.ret Try.results4 (RVs.cons (RV.tmp rfl) RVs.nil) rfl ?_
                              first | rfl | (rw [mh.2])
                            · -- c166 False
                              have hM : (vs162.map encVer).length = vs162.length := List.length_map ..
                              have hn1 : 1 ≤ ((vs162.map encVer).length : Int) := by have h := c166; simp only [beq_eq_false_iff_ne, ne_eq] at h; omega
                              have hr0 := r8At_lim (l := more) (k := 0) (n := ((vs162.map encVer).length : Int)) hn1
                              have hr1 := r8At_lim (l := more) (k := 1) (n := ((vs162.map encVer).length : Int)) hn1
                              have hip : inVers vs162 (1 + r8At more 0 ((vs162.map encVer).length : Int)) = true := by simp only [inVers, Bool.and_eq_true, decide_eq_true_eq]; omega
                              have hiq : inVers vs162 (1 + r8At more 1 ((vs162.map encVer).length : Int)) = true := by simp only [inVers, Bool.and_eq_true, decide_eq_true_eq]; omega
                              have hc1 : commonAncestor vs162 (1 + r8At more 0 ((vs162.map encVer).length : Int)) (1 + r8At more 1 ((vs162.map encVer).length : Int)) = (commonA vs162 (1 + r8At more 0 ((vs162.map encVer).length : Int)) (1 + r8At more 1 ((vs162.map encVer).length : Int)), 0) := by unfold commonAncestor; rw [if_pos hok, if_pos (by rw [hip, hiq]; rfl)]
                              have hc2 : commonAncestor vs162 (1 + r8At more 1 ((vs162.map encVer).length : Int)) (1 + r8At more 0 ((vs162.map encVer).length : Int)) = (commonA vs162 (1 + r8At more 0 ((vs162.map encVer).length : Int)) (1 + r8At more 1 ((vs162.map encVer).length : Int)), 0) := by unfold commonAncestor; rw [if_pos hok, if_pos (by rw [hip, hiq]; rfl), common_symm hok (by omega) (by omega)]
                              have hcl := common_lim hok (a := (1 + r8At more 0 ((vs162.map encVer).length : Int))) (b := (1 + r8At more 1 ((vs162.map encVer).length : Int))) (by omega) (by omega)
                              refine AC.skip ?_
                              refine AC.seq ?_
                              refine AC.region ?_
                              refine AO.yld _ (Yld.move rfl) rfl rfl rfl ?_
                              refine AO.yld _ (Yld.move rfl) rfl rfl rfl ?_
                              refine AO.yld _ (Yld.call rfl rfl Try.call24 rfl rfl rfl (laws_r8At_c (by omega)) rfl) rfl rfl rfl ?_
                              refine AO.yld _ (Yld.add rfl rfl (by omega) (by omega)) rfl rfl rfl ?_
                              refine AO.yld _ (Yld.assign rfl) rfl rfl rfl ?_
                              refine AO.nil ?_
                              refine AC.seq ?_
                              refine AC.region ?_
                              refine AO.yld _ (Yld.move rfl) rfl rfl rfl ?_
                              refine AO.yld _ (Yld.move rfl) rfl rfl rfl ?_
                              refine AO.yld _ (Yld.call rfl rfl Try.call24 rfl rfl rfl (laws_r8At_c (by omega)) rfl) rfl rfl rfl ?_
                              refine AO.yld _ (Yld.add rfl rfl (by omega) (by omega)) rfl rfl rfl ?_
                              refine AO.yld _ (Yld.assign rfl) rfl rfl rfl ?_
                              refine AO.nil ?_
                              refine AC.seq ?_
                              refine AC.region ?_
                              refine AO.yld _ (Yld.move rfl) rfl rfl rfl ?_
                              refine AO.yld _ (Yld.move rfl) rfl rfl rfl ?_
                              refine AO.yld _ (Yld.move rfl) rfl rfl rfl ?_
                              refine AO.freeze 10 rfl ?_
                              refine AO.yld _ (Yld.call rfl rfl Try.call25 rfl rfl rfl (impl_CommonAncestor_c hgd) rfl) rfl rfl rfl ?_
                              refine AO.yld _ (Yld.move rfl) rfl rfl rfl ?_
                              refine AO.yld _ (Yld.extract rfl rfl rfl) rfl rfl rfl ?_
                              refine AO.yld _ (Yld.extract rfl rfl rfl) rfl rfl rfl ?_
                              refine AO.yld _ (Yld.assign rfl) rfl rfl rfl ?_
                              refine AO.yld _ (Yld.assign rfl) rfl rfl rfl ?_
                              refine AO.nil ?_
                              refine AC.seq ?_
                              refine AC.region ?_
                              refine AO.yld _ (Yld.move rfl) rfl rfl rfl ?_
                              refine AO.yld _ (Yld.move rfl) rfl rfl rfl ?_
                              refine AO.yld _ (Yld.move rfl) rfl rfl rfl ?_
                              refine AO.yld _ (Yld.call rfl rfl Try.call25 rfl rfl rfl (impl_CommonAncestor_c hgd) rfl) rfl rfl rfl ?_
                              refine AO.yld _ (Yld.move rfl) rfl rfl rfl ?_
                              refine AO.yld _ (Yld.extract rfl rfl rfl) rfl rfl rfl ?_
                              refine AO.yld _ (Yld.extract rfl rfl rfl) rfl rfl rfl ?_
                              refine AO.yld _ (Yld.assign rfl) rfl rfl rfl ?_
                              refine AO.yld _ (Yld.assign rfl) rfl rfl rfl ?_
                              refine AO.nil ?_
                              refine AC.seq ?_
                              refine AC.region ?_
                              refine AO.yld _ (Yld.move rfl) rfl rfl rfl ?_
                              refine AO.yld _ (Yld.move rfl) rfl rfl rfl ?_
                              refine AO.yld _ (Yld.move rfl) rfl rfl rfl ?_
                              refine AO.callW (wantedN rfl) [11] [] [0] rfl rfl Try.call26 rfl (impl_MergeVersions_c (a := (1 + r8At more 0 ((vs162.map encVer).length : Int))) (b := (1 + r8At more 1 ((vs162.map encVer).length : Int))) (memo := [98, 111, 116, 104]) hgd (by decide)) (.flat (.view rfl rfl (.view rfl rfl (.view rfl rfl (.view rfl rfl .nil)))) (fun _ => by simp [AV.Flat, AV.FlatL, PV.Flat, PV.FlatL]) (fun _ => ⟨vers_flat, trivial⟩)) rfl (fun _ => rfl) trivial rfl (fun _ => rfl) (fun _ => rfl) (fun _ _ => ?_)
                              refine AO.yld _ (Yld.move rfl) rfl rfl rfl ?_
                              refine AO.yld _ (Yld.extract rfl rfl rfl) rfl rfl rfl ?_
                              refine AO.yld _ (Yld.extract rfl rfl rfl) rfl rfl rfl ?_
                              refine AO.yld _ (Yld.assign rfl) rfl rfl rfl ?_
                              refine AO.yld _ (Yld.assign rfl) rfl rfl rfl ?_
                              refine AO.nil ?_
                              refine AC.seq ?_
                              refine AC.seq ?_
                              refine AC.region ?_
                              rw [hc1, hc2]
                              refine AO.yld _ (Yld.move rfl) rfl rfl rfl ?_
                              refine AO.yld _ (Yld.int rfl rfl rfl) rfl rfl rfl ?_
                              refine AO.yld _ (Yld.move rfl) rfl rfl rfl ?_
                              refine AO.splitAt 198 _ rfl (fun s198 => ?_) (fun s198 => ?_)
                              · -- s198 True
                                exfalso; simp at s198
                              · -- s198 False
                                refine AO.yldG _ (Yld.move rfl) rfl rfl rfl rfl rfl ?_
                                refine AO.yldG _ (Yld.int rfl rfl rfl) rfl rfl rfl rfl rfl ?_
                                refine AO.yld _ (Yld.pickF rfl rfl) rfl rfl rfl ?_
                                refine AO.yld _ (Yld.move rfl) rfl rfl rfl ?_
                                refine AO.splitAt 202 _ rfl (fun s202 => ?_) (fun s202 => ?_)
                                · -- s202 True
                                  exfalso; simp at s202
                                · -- s202 False
                                  refine AO.yldG _ (Yld.move rfl) rfl rfl rfl rfl rfl ?_
                                  refine AO.yldG _ (Yld.move rfl) rfl rfl rfl rfl rfl ?_
                                  refine AO.yldG _ (Yld.int rfl rfl rfl) rfl rfl rfl rfl rfl ?_
                                  refine AO.yld _ (Yld.pickF rfl rfl) rfl rfl rfl ?_
                                  refine AO.yld _ (Yld.move rfl) rfl rfl rfl ?_
                                  refine AO.splitAt 207 _ rfl (fun s207 => ?_) (fun s207 => ?_)
                                  · -- s207 True
                                    exfalso; simp at s207
                                  · -- s207 False
                                    refine AO.yldG _ (Yld.move rfl) rfl rfl rfl rfl rfl ?_
                                    refine AO.yldG _ (Yld.int rfl rfl rfl) rfl rfl rfl rfl rfl ?_
                                    refine AO.yld _ (Yld.pickF rfl rfl) rfl rfl rfl ?_
                                    refine AO.yld _ (Yld.move rfl) rfl rfl rfl ?_
                                    refine AO.splitAt 211 _ rfl (fun s211 => ?_) (fun s211 => ?_)
                                    · -- s211 True
                                      exfalso; have h9 := s211; simp only [decide_eq_true_eq] at h9; omega
                                    · -- s211 False
                                      refine AO.yldG _ (Yld.move rfl) rfl rfl rfl rfl rfl ?_
                                      refine AO.yldG _ (Yld.move rfl) rfl rfl rfl rfl rfl ?_
                                      refine AO.yldG _ (Yld.move rfl) rfl rfl rfl rfl rfl ?_
                                      refine AO.yldG _ (Yld.min2 rfl rfl) rfl rfl rfl rfl rfl ?_
                                      refine AO.yldG _ (Yld.int rfl rfl rfl) rfl rfl rfl rfl rfl ?_
                                      refine AO.yld _ (Yld.pickF rfl rfl) rfl rfl rfl ?_
                                      refine AO.nil ?_
                                      refine AC.cond _ rfl (fun c217 => ?_) (fun c217 => ?_)
                                      · -- c217 True
                                        exfalso; have h9 := c217; simp only [decide_eq_true_eq] at h9; omega
                                      · -- c217 False
                                        refine AC.skip ?_
                                        refine AC.seq ?_
                                        refine AC.region ?_
                                        refine AO.yld _ (Yld.move rfl) rfl rfl rfl ?_
                                        refine AO.yld _ (Yld.int rfl rfl rfl) rfl rfl rfl ?_
                                        refine AO.yld _ (Yld.move rfl) rfl rfl rfl ?_
                                        refine AO.splitAt 220 _ rfl (fun s220 => ?_) (fun s220 => ?_)
                                        · -- s220 True
                                          refine AO.skipF rfl rfl rfl rfl rfl ?_
                                          refine AO.skipF rfl rfl rfl rfl rfl ?_
                                          refine AO.skipF rfl rfl rfl rfl rfl ?_
                                          refine AO.skipF rfl rfl rfl rfl rfl ?_
                                          refine AO.skipF rfl rfl rfl rfl rfl ?_
                                          refine AO.skipF rfl rfl rfl rfl rfl ?_
                                          refine AO.skipU rfl rfl rfl rfl rfl ?_
                                          refine AO.skipU rfl rfl rfl rfl rfl ?_
                                          refine AO.skipF rfl rfl rfl rfl rfl ?_
                                          refine AO.yld _ (Yld.pickT rfl rfl) rfl rfl rfl ?_
                                          refine AO.yld _ (Yld.assign rfl) rfl rfl rfl ?_
                                          refine AO.nil ?_
                                          refine Pure.ret Try.results4 (RVs.cons (RV.tmp rfl) RVs.nil) rfl ?_
                                          first | rfl | (rw [mh.2])
                                        · -- s220 False
                                          have mh := merge_hist hok hip hiq (memo := [98, 111, 116, 104]) (by decide) (by simpa using s220)
                                          refine AO.yldG _ (Yld.move rfl) rfl rfl rfl rfl rfl ?_
                                          refine AO.yldG _ (Yld.lenV Try.underlying46 rfl rfl) rfl rfl rfl rfl rfl ?_
                                          refine AO.yldG _ (Yld.move rfl) rfl rfl rfl rfl rfl ?_
                                          refine AO.yldG _ (Yld.add rfl rfl (by omega) (by omega)) rfl rfl rfl rfl rfl ?_
                                          refine AO.yldG _ (Yld.int rfl rfl rfl) rfl rfl rfl rfl rfl ?_
                                          refine AO.yldG _ (Yld.move rfl) rfl rfl rfl rfl rfl ?_
                                          refine AO.splitAt 226 _ rfl (fun s226 => ?_) (fun s226 => ?_)
                                          · -- s226 True
                                            refine AO.yldG _ (Yld.move rfl) rfl rfl rfl rfl rfl ?_
                                            refine AO.yldG _ (Yld.call rfl rfl Try.call27 rfl rfl rfl (spec_ValidHistory_c (mergeV_good hgd (by decide))) rfl) rfl rfl rfl rfl rfl ?_
                                            refine AO.yldG _ (Yld.pickT rfl rfl) rfl rfl rfl rfl rfl ?_
                                            refine AO.yld _ (Yld.pickF rfl rfl) rfl rfl rfl ?_
                                            refine AO.yld _ (Yld.assign rfl) rfl rfl rfl ?_
                                            refine AO.nil ?_
                                            refine Pure.ret Try.results4 (RVs.cons (RV.tmp rfl) RVs.nil) rfl ?_
                                            first | rfl | (rw [mh.2])
                                          · -- s226 False
                                            exfalso; have h9 := s226; rw [List.length_map, mh.1] at h9; simp at h9

end Go.Proofs.Ytdlpkfihjfmgeaa
