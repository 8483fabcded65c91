/- Contracts of functions of the program, each by a walk of its text in the calculus V. -/
import Derived.Test.YtdpanmnnfamfmaaXA
import Derived.Test.YtdpanmnnfamfmaaW5
import Derived.Test.YtdpanmnnfamfmaaV22
import Derived.Test.YtdpanmnnfamfmaaD46
set_option linter.all false
set_option linter.unusedSimpArgs false
set_option linter.unnecessarySimpa false
set_option linter.unusedVariables false
namespace Go.Proofs.Ytdpanmnnfamfmaa
open Go Go.V
theorem ty2 : TyIs Try.prog 2 (.int .i64 0) 1 8 := by unfold TyIs; kernel_rfl

theorem spec_l00Own_c {xs : List Int} (hn : xs.length ≤ 1048576) :
    FnE (α := Unit) Try.prog 82 [.p (.sl 1 (xs.map Go.V.encI))] [] [] (fun _ => True) (fun _ => .h 0) (fun _ => [(0, .vec 2 1 (xs.map Go.V.encI))]) := by
  refine FnE.intro Try.func82 rfl Try.ntmps82 rfl rfl (fun w0 F0 η φ w => ?_)
  refine AC.seq ?_
  refine AC.region ?_
  refine AO.yld _ (Yld.assign rfl) rfl rfl rfl ?_
  refine AO.nil ?_
  refine AC.seq ?_
  refine AC.region ?_
  refine AO.buildSlice (rows := []) 0 Try.underlying42 ty2 rfl rfl rfl rfl rfl rfl rfl rfl rfl ?_
  refine AO.yld _ (Yld.move rfl) rfl rfl rfl ?_
  refine AO.append 0 Try.underlying42 ty2 rfl rfl rfl rfl rfl rfl rfl (fun r hr q hq => by obtain ⟨y, _, rfl⟩ := List.mem_map.1 hr; simp only [Go.V.encI, List.mem_cons, List.not_mem_nil, or_false] at hq; rcases hq with rfl; rfl) (by simp only [List.length_map, List.length_cons, List.length_nil]; omega) (by simp only [List.length_map, List.length_cons, List.length_nil]; omega) rfl ?_
  refine AO.yld _ (Yld.assign rfl) rfl rfl rfl ?_
  refine AO.nil ?_
  refine FnE.ret () [0] [0] Try.results82 (RVs.cons (RV.tmp rfl) RVs.nil) rfl rfl rfl ?_ ?_ ⟨⟨_, rfl, ?_⟩, trivial⟩
  · -- holds
    trivial
  · -- value
    rfl
  · -- thing 0
    first | rfl | (refine vecE ?_; simp)

theorem spec_l22Order_c {ks : List Int} (hn : ks.length ≤ 1000) :
    FnE (α := Unit) Try.prog 58 [.p (.sl 1 (ks.map Go.V.encI))] [] [] (fun _ => True) (fun _ => .h 0) (fun _ => [(0, .vec 2 1 ((ordK ks ks.length).map Go.V.encI))]) := by
  have hM : (ks.map Go.V.encI).length = ks.length := by simp
  refine FnE.intro Try.func58 rfl Try.ntmps58 rfl rfl (fun w0 F0 η φ w => ?_)
  refine AC.seq ?_
  refine AC.region ?_
  refine AO.yld _ (Yld.assign rfl) rfl rfl rfl ?_
  refine AO.nil ?_
  refine AC.seq ?_
  refine AC.region ?_
  refine AO.buildSlice (rows := []) 0 Try.underlying42 ty2 rfl rfl rfl rfl rfl rfl rfl rfl rfl ?_
  refine AO.yld _ (Yld.assign rfl) rfl rfl rfl ?_
  refine AO.nil ?_
  refine AC.seq ?_
  refine AC.seq ?_
  refine AC.region ?_
  refine AO.yld _ (Yld.assign rfl) rfl rfl rfl ?_
  refine AO.nil ?_
  refine AC.block ?_
  refine AC.loopC [(0, _), (2, _)] [(900, _)] (fun (k : Nat) => [(4, .p (.v (.int .i64 (k : Int)))), (3, .h 0)]) (fun (k : Nat) => [(0, .vec 2 1 ((ordK ks k).map Go.V.encI))]) (fun (k : Nat) => k ≤ ks.length) (fun (k : Nat) => ks.length - k) 0 ⟨rfl, rfl, trivial⟩ ⟨rfl, trivial⟩ ⟨rfl, rfl, trivial⟩ ⟨rfl, trivial⟩ ?_ (fun k hJ => ?_)
  · exact Nat.zero_le _
  · -- round
    refine AC.seq ?_
    refine AC.seq ?_
    refine AC.region ?_
    refine AO.yld _ (Yld.move rfl) rfl rfl rfl ?_
    refine AO.yld _ (Yld.move rfl) rfl rfl rfl ?_
    refine AO.yld _ (Yld.len Try.underlying42 rfl rfl) rfl rfl rfl ?_
    refine AO.yld _ (Yld.int rfl rfl rfl) rfl rfl rfl ?_
    refine AO.nil ?_
    refine AC.cond _ rfl (fun c11 => ?_) (fun c11 => ?_)
    · -- c11 True
      have hk : k < ks.length := by have h := c11; rw [hM] at h; simp at h; omega
      obtain ⟨g, hg⟩ := get_some hk
      have hrI := map_row (enc := Go.V.encI) hg
      have hkg := keyK_get hg
      refine AC.skip ?_
      refine AC.seq ?_
      refine AC.block ?_
      refine AC.seq ?_
      refine AC.region ?_
      refine AO.yld _ (Yld.move rfl) rfl rfl rfl ?_
      refine AO.yld _ (Yld.len Try.underlying42 rfl rfl) rfl rfl rfl ?_
      refine AO.yld _ (Yld.assign rfl) rfl rfl rfl ?_
      refine AO.nil ?_
      refine AC.seq ?_
      refine AC.block ?_
      refine AC.loopC [(0, _), (2, _), (3, _), (4, _)] [(0, _), (900, _)] (fun (j : Nat) => [(5, .p (.v (.int .i64 (j : Int))))]) (fun (j : Nat) => []) (fun (j : Nat) => j ≤ k ∧ posK ks (keyK ks k) (ordK ks k) k = posK ks (keyK ks k) (ordK ks k) j) (fun (j : Nat) => j) k ⟨rfl, rfl, rfl, rfl, trivial⟩ ⟨rfl, rfl, trivial⟩ ⟨by show some (AV.p (PV.v (Value.int IntKind.i64 _))) = _; rw [List.length_map, ordK_length], trivial⟩ trivial ?_ (fun j hI => ?_)
      · exact ⟨Nat.le_refl _, rfl⟩
      · -- round
        have hI1 := hI.1
        refine AC.seq ?_
        refine AC.seq ?_
        refine AC.draw (by kernel_rfl) (by kernel_rfl) ?_
        refine AO.yld _ (Yld.move rfl) rfl rfl rfl ?_
        refine AO.yld _ (Yld.int rfl rfl rfl) rfl rfl rfl ?_
        refine AO.yld _ (Yld.move rfl) rfl rfl rfl ?_
        refine AO.splitAt 18 _ rfl (fun s18 => ?_) (fun s18 => ?_)
        · -- s18 True
          obtain ⟨jj, rfl⟩ : ∃ jj, j = jj + 1 := ⟨j - 1, by have h := s18; simp at h; omega⟩
          obtain ⟨y, hy⟩ := get_some (xs := ordK ks k) (k := jj) (by rw [ordK_length]; omega)
          obtain ⟨m, rfl, hm⟩ := ordK_get y (List.mem_of_getElem? hy)
          have hrB := map_row (enc := Go.V.encI) hy
          obtain ⟨g2, hg2⟩ := get_some (xs := ks) (k := m) (by omega)
          have hrK := map_row (enc := Go.V.encI) hg2
          have hkm := keyK_get hg2
          refine AO.yldG _ (Yld.move rfl) rfl rfl rfl rfl rfl ?_
          refine AO.yldG _ (Yld.move rfl) rfl rfl rfl rfl rfl ?_
          refine AO.yldG _ (Yld.move rfl) rfl rfl rfl rfl rfl ?_
          refine AO.yldG _ (Yld.sub rfl rfl (by omega) (by omega)) rfl rfl rfl rfl rfl ?_
          refine AO.yldG _ (Yld.indexVec Try.underlying42 Try.sizeOf2 rfl rfl rfl (show _ = ((jj : Nat) : Int) by omega) (by rw [List.length_map, ordK_length]; omega)) rfl rfl rfl rfl rfl ?_
          refine AO.yldG _ (Yld.load Try.isAgg2 rfl (Eq.trans (behind_el rfl hrB) rfl)) rfl rfl rfl rfl rfl ?_
          refine AO.yldG _ (Yld.indexSl Try.underlying42 Try.sizeOf2 rfl rfl hrK rfl) rfl rfl rfl rfl rfl ?_
          refine AO.yldG _ (Yld.load Try.isAgg2 rfl rfl) rfl rfl rfl rfl rfl ?_
          refine AO.yldG _ (Yld.move rfl) rfl rfl rfl rfl rfl ?_
          refine AO.yldG _ (Yld.move rfl) rfl rfl rfl rfl rfl ?_
          refine AO.yldG _ (Yld.indexSl Try.underlying42 Try.sizeOf2 rfl rfl hrI rfl) rfl rfl rfl rfl rfl ?_
          refine AO.yldG _ (Yld.load Try.isAgg2 rfl rfl) rfl rfl rfl rfl rfl ?_
          refine AO.yldG _ (Yld.int rfl rfl rfl) rfl rfl rfl rfl rfl ?_
          refine AO.yld _ (Yld.pickT rfl rfl) rfl rfl rfl ?_
          refine AO.nil ?_
          refine AC.cond _ rfl (fun c32 => ?_) (fun c32 => ?_)
          · -- c32 True
            have hbe : keyK ks k < keyK ks (m : Int) := by have h := c32; rw [decide_eq_true_eq] at h; rw [hkg, hkm]; omega
            refine AC.skip ?_
            refine AC.block ?_
            refine AC.region ?_
            refine AO.yld _ (Yld.move rfl) rfl rfl rfl ?_
            refine AO.yld _ (Yld.sub rfl rfl (by omega) (by omega)) rfl rfl rfl ?_
            refine AO.yld _ (Yld.assign rfl) rfl rfl rfl ?_
            refine AO.nil ?_
            refine AC.mark ?_
            refine AC.back ⟨jj, ?_, ?_, ⟨?_, trivial⟩, trivial, ⟨rfl, rfl, rfl, rfl, trivial⟩, ⟨rfl, rfl, trivial⟩⟩
            · exact ⟨by omega, hI.2.trans (posK_go hy hbe)⟩
            · omega
            · first | rfl | (show some (AV.p (PV.v (Value.int IntKind.i64 _))) = _; congr 4; omega)
          · -- c32 False
            have hst : posK ks (keyK ks k) (ordK ks k) (jj + 1) = jj + 1 := posK_stop hy (by have h := c32; rw [decide_eq_false_iff_not] at h; rw [hkg, hkm]; omega)
            refine AC.exit rfl ?_
            refine AC.seq ?_
            refine AC.region ?_
            refine AO.freeze 0 rfl ?_
            refine AO.yld _ (Yld.move rfl) rfl rfl rfl ?_
            refine AO.yld _ (Yld.move rfl) rfl rfl rfl ?_
            refine AO.yld _ (Yld.sliceTo (h := _) Try.underlying42 Try.sizeOf2 rfl rfl rfl (by rw [ordK_length]; omega)) rfl rfl rfl ?_
            refine AO.callW (wantedN rfl) [0] [] [0] rfl rfl Try.call82 rfl (spec_l00Own_c (by rw [List.length_take, ordK_length]; omega)) (.flat (.view rfl rfl .nil) (fun _ => by simp [AV.Flat, AV.FlatL, PV.Flat, PV.FlatL]) (fun _ => ⟨flat_map flatI _, trivial⟩)) rfl (fun _ => rfl) trivial rfl (fun _ => rfl) (fun _ => rfl) (fun _ _ => ?_)
            refine AO.yld _ (Yld.assign rfl) rfl rfl rfl ?_
            refine AO.nil ?_
            refine AC.seq ?_
            refine AC.region ?_
            refine AO.yld _ (Yld.move rfl) rfl rfl rfl ?_
            refine AO.yld _ (Yld.move rfl) rfl rfl rfl ?_
            refine AO.buildSlice (rows := [[_]]) 1 Try.underlying42 ty2 rfl rfl rfl rfl rfl rfl rfl rfl rfl ?_
            refine AO.append 0 Try.underlying42 ty2 rfl rfl rfl rfl rfl rfl rfl (by simp [pvOne]) (by simp only [List.length_map, List.length_cons, List.length_nil, List.length_take, ordK_length]; omega) (by simp only [List.length_map, List.length_cons, List.length_nil, List.length_take, ordK_length]; omega) rfl ?_
            refine AO.yld _ (Yld.assign rfl) rfl rfl rfl ?_
            refine AO.nil ?_
            refine AC.region ?_
            refine AO.yld _ (Yld.move rfl) rfl rfl rfl ?_
            refine AO.yld _ (Yld.move rfl) rfl rfl rfl ?_
            refine AO.yld _ (Yld.move rfl) rfl rfl rfl ?_
            refine AO.yld _ (Yld.sliceFrom (l := _) Try.underlying42 Try.sizeOf2 rfl rfl rfl (by rw [ordK_length]; omega)) rfl rfl rfl ?_
            refine AO.append 0 Try.underlying42 ty2 rfl rfl rfl rfl rfl rfl rfl (fun r hr q hq => by obtain ⟨y, _, rfl⟩ := List.mem_map.1 hr; simp only [Go.V.encI, List.mem_cons, List.not_mem_nil, or_false] at hq; rcases hq with rfl; rfl) (by simp only [List.length_append, List.length_map, List.length_cons, List.length_nil, List.length_take, List.length_drop, ordK_length]; omega) (by simp only [List.length_append, List.length_map, List.length_cons, List.length_nil, List.length_take, List.length_drop, ordK_length]; omega) rfl ?_
            refine AO.yld _ (Yld.assign rfl) rfl rfl rfl ?_
            refine AO.nil ?_
            refine AC.mark ?_
            refine AC.region ?_
            refine AO.yld _ (Yld.move rfl) rfl rfl rfl ?_
            refine AO.yld _ (Yld.add rfl rfl (by omega) (by omega)) rfl rfl rfl ?_
            refine AO.yld _ (Yld.assign rfl) rfl rfl rfl ?_
            refine AO.nil ?_
            refine AC.back ⟨k + 1, ?_, ?_, ⟨?_, ?_, trivial⟩, ⟨?_, trivial⟩, ⟨rfl, rfl, trivial⟩, ⟨rfl, trivial⟩⟩
            · exact hk
            · omega
            · rfl
            · rfl
            · rw [← ordK_next (hI.2.trans hst)]; rfl
        · -- s18 False
          have hst : posK ks (keyK ks k) (ordK ks k) j = j := by (have h0 : j = 0 := (by have h := s18; simp at h; omega)); rw [h0]; rfl
          refine AO.skipT rfl rfl rfl rfl rfl ?_
          refine AO.skipT rfl rfl rfl rfl rfl ?_
          refine AO.skipT rfl rfl rfl rfl rfl ?_
          refine AO.skipT rfl rfl rfl rfl rfl ?_
          refine AO.skipT rfl rfl rfl rfl rfl ?_
          refine AO.skipT rfl rfl rfl rfl rfl ?_
          refine AO.skipT rfl rfl rfl rfl rfl ?_
          refine AO.skipT rfl rfl rfl rfl rfl ?_
          refine AO.skipT rfl rfl rfl rfl rfl ?_
          refine AO.skipT rfl rfl rfl rfl rfl ?_
          refine AO.skipT rfl rfl rfl rfl rfl ?_
          refine AO.skipT rfl rfl rfl rfl rfl ?_
          refine AO.skipT rfl rfl rfl rfl rfl ?_
          refine AO.yld _ (Yld.pickF rfl rfl) rfl rfl rfl ?_
          refine AO.nil ?_
          refine AC.condF rfl ?_
          refine AC.exit rfl ?_
          refine AC.seq ?_
          refine AC.region ?_
          refine AO.freeze 0 rfl ?_
          refine AO.yld _ (Yld.move rfl) rfl rfl rfl ?_
          refine AO.yld _ (Yld.move rfl) rfl rfl rfl ?_
          refine AO.yld _ (Yld.sliceTo (h := _) Try.underlying42 Try.sizeOf2 rfl rfl rfl (by rw [ordK_length]; omega)) rfl rfl rfl ?_
          refine AO.callW (wantedN rfl) [0] [] [0] rfl rfl Try.call82 rfl (spec_l00Own_c (by rw [List.length_take, ordK_length]; omega)) (.flat (.view rfl rfl .nil) (fun _ => by simp [AV.Flat, AV.FlatL, PV.Flat, PV.FlatL]) (fun _ => ⟨flat_map flatI _, trivial⟩)) rfl (fun _ => rfl) trivial rfl (fun _ => rfl) (fun _ => rfl) (fun _ _ => ?_)
          refine AO.yld _ (Yld.assign rfl) rfl rfl rfl ?_
          refine AO.nil ?_
          refine AC.seq ?_
          refine AC.region ?_
          refine AO.yld _ (Yld.move rfl) rfl rfl rfl ?_
          refine AO.yld _ (Yld.move rfl) rfl rfl rfl ?_
          refine AO.buildSlice (rows := [[_]]) 1 Try.underlying42 ty2 rfl rfl rfl rfl rfl rfl rfl rfl rfl ?_
          refine AO.append 0 Try.underlying42 ty2 rfl rfl rfl rfl rfl rfl rfl (by simp [pvOne]) (by simp only [List.length_map, List.length_cons, List.length_nil, List.length_take, ordK_length]; omega) (by simp only [List.length_map, List.length_cons, List.length_nil, List.length_take, ordK_length]; omega) rfl ?_
          refine AO.yld _ (Yld.assign rfl) rfl rfl rfl ?_
          refine AO.nil ?_
          refine AC.region ?_
          refine AO.yld _ (Yld.move rfl) rfl rfl rfl ?_
          refine AO.yld _ (Yld.move rfl) rfl rfl rfl ?_
          refine AO.yld _ (Yld.move rfl) rfl rfl rfl ?_
          refine AO.yld _ (Yld.sliceFrom (l := _) Try.underlying42 Try.sizeOf2 rfl rfl rfl (by rw [ordK_length]; omega)) rfl rfl rfl ?_
          refine AO.append 0 Try.underlying42 ty2 rfl rfl rfl rfl rfl rfl rfl (fun r hr q hq => by obtain ⟨y, _, rfl⟩ := List.mem_map.1 hr; simp only [Go.V.encI, List.mem_cons, List.not_mem_nil, or_false] at hq; rcases hq with rfl; rfl) (by simp only [List.length_append, List.length_map, List.length_cons, List.length_nil, List.length_take, List.length_drop, ordK_length]; omega) (by simp only [List.length_append, List.length_map, List.length_cons, List.length_nil, List.length_take, List.length_drop, ordK_length]; omega) rfl ?_
          refine AO.yld _ (Yld.assign rfl) rfl rfl rfl ?_
          refine AO.nil ?_
          refine AC.mark ?_
          refine AC.region ?_
          refine AO.yld _ (Yld.move rfl) rfl rfl rfl ?_
          refine AO.yld _ (Yld.add rfl rfl (by omega) (by omega)) rfl rfl rfl ?_
          refine AO.yld _ (Yld.assign rfl) rfl rfl rfl ?_
          refine AO.nil ?_
          refine AC.back ⟨k + 1, ?_, ?_, ⟨?_, ?_, trivial⟩, ⟨?_, trivial⟩, ⟨rfl, rfl, trivial⟩, ⟨rfl, trivial⟩⟩
          · exact hk
          · omega
          · rfl
          · rfl
          · rw [← ordK_next (hI.2.trans hst)]; rfl
    · -- c11 False
      obtain rfl : k = ks.length := by have h := c11; rw [hM] at h; simp at h; omega
      refine AC.exit rfl ?_
      refine AC.seq ?_
      refine AC.region ?_
      refine AO.yld _ (Yld.move rfl) rfl rfl rfl ?_
      refine AO.yld _ (Yld.assign rfl) rfl rfl rfl ?_
      refine AO.nil ?_
      refine FnE.ret () [0] [0] Try.results58 (RVs.cons (RV.tmp rfl) RVs.nil) rfl rfl rfl ?_ ?_ ⟨⟨_, rfl, ?_⟩, trivial⟩
      · -- holds
        trivial
      · -- value
        rfl
      · -- thing 0
        rfl

theorem indexInt_c {xs : List Int} {n : Int} (hn : xs.length ≤ 1048576) :
    Pure Try.prog 55 [.sl 1 (xs.map Go.V.encI), .v (.int .i64 n)] (.v (.int .i64 (idxOf (fun x => decide (n = x)) xs))) := by
  refine Pure.intro Try.func55 rfl Try.ntmps55 rfl rfl (fun w => ?_)
  refine AC.seq ?_
  refine AC.region ?_
  refine AO.yld _ (Yld.assign rfl) rfl rfl rfl ?_
  refine AO.nil ?_
  refine AC.seq ?_
  refine AC.seq ?_
  refine AC.region ?_
  refine AO.yld _ (Yld.move rfl) rfl rfl rfl ?_
  refine AO.yld _ (Yld.len Try.underlying42 rfl rfl) rfl rfl rfl ?_
  refine AO.yld _ (Yld.move rfl) rfl rfl rfl ?_
  refine AO.nil ?_
  refine AC.block ?_
  refine AC.loopC [(0, _), (1, _), (7, _)] [] (fun (k : Nat) => [(8, .p (.v (.int .i64 (k : Int))))]) (fun (k : Nat) => []) (fun (k : Nat) => k ≤ xs.length ∧ anyTo (fun x => decide (n = x)) xs k = false) (fun (k : Nat) => xs.length - k) 0 ⟨rfl, rfl, rfl, trivial⟩ trivial ⟨rfl, trivial⟩ trivial ?_ (fun k hJ => ?_)
  · exact ⟨Nat.zero_le _, rfl⟩
  · -- round
    refine AC.seq ?_
    refine AC.region ?_
    refine AO.yld _ (Yld.int rfl rfl rfl) rfl rfl rfl ?_
    refine AO.nil ?_
    refine AC.seq ?_
    refine AC.cond _ rfl (fun c9 => ?_) (fun c9 => ?_)
    · -- c9 True
      have hk := lt_of_decM c9
      obtain ⟨x, hx⟩ := get_some hk
      have hrow := map_row (enc := Go.V.encI) hx
      refine AC.skip ?_
      refine AC.seq ?_
      refine AC.block ?_
      refine AC.seq ?_
      refine AC.region ?_
      refine AO.yld _ (Yld.move rfl) rfl rfl rfl ?_
      refine AO.yld _ (Yld.assign rfl) rfl rfl rfl ?_
      refine AO.nil ?_
      refine AC.seq ?_
      refine AC.region ?_
      refine AO.yld _ (Yld.move rfl) rfl rfl rfl ?_
      refine AO.yld _ (Yld.move rfl) rfl rfl rfl ?_
      refine AO.yld _ (Yld.move rfl) rfl rfl rfl ?_
      refine AO.yld _ (Yld.indexSl Try.underlying42 Try.sizeOf2 rfl rfl hrow rfl) rfl rfl rfl ?_
      refine AO.yld _ (Yld.load Try.isAgg2 rfl rfl) rfl rfl rfl ?_
      refine AO.yld _ (Yld.int rfl rfl rfl) rfl rfl rfl ?_
      refine AO.nil ?_
      refine AC.cond _ rfl (fun c16 => ?_) (fun c16 => ?_)
      · -- c16 True
        refine AC.seq ?_
        refine AC.region ?_
        refine AO.yld _ (Yld.move rfl) rfl rfl rfl ?_
        refine AO.yld _ (Yld.assign rfl) rfl rfl rfl ?_
        refine AO.nil ?_
        refine Pure.ret Try.results55 (RVs.cons (RV.tmp rfl) RVs.nil) rfl ?_
        first
          | exact ci (idx_hit hJ.2 hx (by simpa using c16))
          | exact ci (idx_miss hJ.2)
          | exact ci (idx_hit hJ.2 hx (by simpa using c16)).symm
          | exact ci (idx_miss hJ.2).symm
      · -- c16 False
        refine AC.skip ?_
        refine AC.mark ?_
        refine AC.region ?_
        refine AO.yld _ (Yld.add rfl rfl (by omega) (by omega)) rfl rfl rfl ?_
        refine AO.yld _ (Yld.move rfl) rfl rfl rfl ?_
        refine AO.nil ?_
        refine AC.back ⟨k + 1, ?_, ?_, ⟨?_, trivial⟩, trivial, ⟨rfl, rfl, rfl, trivial⟩, trivial⟩
        · exact ⟨hk, by rw [anyTo_succ hx, hJ.2]; simpa using c16⟩
        · omega
        · rfl
    · -- c9 False
      obtain rfl : k = xs.length := by have := ge_of_decM c9; omega
      refine AC.exit rfl ?_
      refine AC.seq ?_
      refine AC.region ?_
      refine AO.yld _ (Yld.assign rfl) rfl rfl rfl ?_
      refine AO.nil ?_
      refine Pure.ret Try.results55 (RVs.cons (RV.tmp rfl) RVs.nil) rfl ?_
      first
        | exact ci (idx_hit hJ.2 hx (by simpa using c16))
        | exact ci (idx_miss hJ.2)
        | exact ci (idx_hit hJ.2 hx (by simpa using c16)).symm
        | exact ci (idx_miss hJ.2).symm

theorem spec_MedianMachine_c {xs : List Mach} (hn : xs.length ≤ 1048576) (hs : ∀ x ∈ xs, x.name.length ≤ 1048576) :
    Pure Try.prog 24 [.sl 3 (xs.map encMach)] (.tup [.v (.int .i64 (medianM xs).1), .v (.int .i64 (medianM xs).2)]) := by
  have hM : (xs.map encMach).length = xs.length := List.length_map ..
  have hO : ((offs xs).map Go.V.encI).length = xs.length := by rw [List.length_map, offs_len]
  refine Pure.intro Try.func24 rfl Try.ntmps24 rfl rfl (fun w => ?_)
  refine AC.seq ?_
  refine AC.region ?_
  refine AO.yld _ (Yld.assign rfl) rfl rfl rfl ?_
  refine AO.yld _ (Yld.assign rfl) rfl rfl rfl ?_
  refine AO.nil ?_
  refine AC.seq ?_
  refine AC.region ?_
  refine AO.yld _ (Yld.move rfl) rfl rfl rfl ?_
  refine AO.yld _ (Yld.call rfl rfl Try.call57 rfl rfl rfl (spec_l26Ask_c (by first | assumption | omega) (by assumption)) rfl) rfl rfl rfl ?_
  refine AO.yld _ (Yld.assign rfl) rfl rfl rfl ?_
  refine AO.nil ?_
  refine AC.seq ?_
  refine AC.seq ?_
  refine AC.region ?_
  refine AO.yld _ (Yld.move rfl) rfl rfl rfl ?_
  refine AO.yld _ (Yld.int rfl rfl rfl) rfl rfl rfl ?_
  refine AO.nil ?_
  refine AC.cond _ rfl (fun c13 => ?_) (fun c13 => ?_)
  · -- c13 True
    have hask : ¬ askMachines xs = 0 := by simpa using c13
    refine AC.seq ?_
    refine AC.region ?_
    refine AO.yld _ (Yld.move rfl) rfl rfl rfl ?_
    refine AO.yld _ (Yld.assign rfl) rfl rfl rfl ?_
    refine AO.yld _ (Yld.assign rfl) rfl rfl rfl ?_
    refine AO.nil ?_
    refine Pure.retT Try.results24 (RVs.cons (RV.tmp rfl) (RVs.cons (RV.tmp rfl) RVs.nil)) rfl ?_
    first | (unfold medianM; rw [if_neg hask]; done) | (unfold medianM; rw [if_neg hask]; rfl) | (unfold medianM; rw [if_pos hask, idx_hit hJ.2 hof (by have h9 := c53; simp at h9; simpa [eq_comm] using h9)]; done) | (unfold medianM; rw [if_pos hask, idx_hit hJ.2 hof (by have h9 := c53; simp at h9; simpa [eq_comm] using h9)]; rfl) | (exfalso; exact med_any hne hJ.2)
  · -- c13 False
    have hask : askMachines xs = 0 := by simpa using c13
    have hok := ask_ok hask
    have hl8 := machines_len hok.1
    refine AC.skip ?_
    refine AC.seq ?_
    refine AC.region ?_
    refine AO.buildSlice (rows := []) 0 Try.underlying42 ty2 rfl rfl rfl rfl rfl rfl rfl rfl rfl ?_
    refine AO.yld _ (Yld.assign rfl) rfl rfl rfl ?_
    refine AO.nil ?_
    refine AC.seq ?_
    refine AC.seq ?_
    refine AC.region ?_
    refine AO.yld _ (Yld.assign rfl) rfl rfl rfl ?_
    refine AO.nil ?_
    refine AC.block ?_
    refine AC.loopC [(0, _), (2, _), (3, _)] [] (fun (k : Nat) => [(6, .p (.v (.int .i64 (k : Int)))), (5, .h 0)]) (fun (k : Nat) => [(0, .vec 2 1 (((offs xs).take k).map Go.V.encI))]) (fun (k : Nat) => k ≤ xs.length) (fun (k : Nat) => xs.length - k) 0 ⟨rfl, rfl, rfl, trivial⟩ trivial ⟨rfl, rfl, trivial⟩ ⟨rfl, trivial⟩ ?_ (fun k hJ => ?_)
    · exact Nat.zero_le _
    · -- round
      refine AC.seq ?_
      refine AC.seq ?_
      refine AC.region ?_
      refine AO.yld _ (Yld.move rfl) rfl rfl rfl ?_
      refine AO.yld _ (Yld.move rfl) rfl rfl rfl ?_
      refine AO.yld _ (Yld.len Try.underlying38 rfl rfl) rfl rfl rfl ?_
      refine AO.yld _ (Yld.int rfl rfl rfl) rfl rfl rfl ?_
      refine AO.nil ?_
      refine AC.cond _ rfl (fun c19 => ?_) (fun c19 => ?_)
      · -- c19 True
        have hk : k < xs.length := by have h := c19; rw [hM] at h; simpa using h
        obtain ⟨x, hx⟩ := get_some hk
        have hrow := map_row (enc := encMach) hx
        have hof := offs_get hx
        refine AC.skip ?_
        refine AC.seq ?_
        refine AC.block ?_
        refine AC.region ?_
        refine AO.yld _ (Yld.move rfl) rfl rfl rfl ?_
        refine AO.yld _ (Yld.move rfl) rfl rfl rfl ?_
        refine AO.yld _ (Yld.move rfl) rfl rfl rfl ?_
        refine AO.yld _ (Yld.indexSl Try.underlying38 Try.sizeOf48 rfl rfl hrow rfl) rfl rfl rfl ?_
        refine AO.yld _ (Yld.fieldAddr Try.underlying48 rfl rfl Try.sizeOf2 rfl rfl rfl) rfl rfl rfl ?_
        refine AO.yld _ (Yld.load Try.isAgg2 rfl rfl) rfl rfl rfl ?_
        refine AO.buildSlice (rows := [[_]]) 1 Try.underlying42 ty2 rfl rfl rfl rfl rfl rfl rfl rfl rfl ?_
        refine AO.append 0 Try.underlying42 ty2 rfl rfl rfl rfl rfl rfl rfl (by simp [pvOne]) (by simp only [List.length_map, List.length_cons, List.length_nil, List.length_take, offs_len]; omega) (by simp only [List.length_map, List.length_cons, List.length_nil, List.length_take, offs_len]; omega) rfl ?_
        refine AO.yld _ (Yld.assign rfl) rfl rfl rfl ?_
        refine AO.nil ?_
        refine AC.mark ?_
        refine AC.region ?_
        refine AO.yld _ (Yld.move rfl) rfl rfl rfl ?_
        refine AO.yld _ (Yld.add rfl rfl (by omega) (by omega)) rfl rfl rfl ?_
        refine AO.yld _ (Yld.assign rfl) rfl rfl rfl ?_
        refine AO.nil ?_
        refine AC.back ⟨k + 1, ?_, ?_, ⟨?_, ?_, trivial⟩, ⟨?_, trivial⟩, ⟨rfl, rfl, rfl, trivial⟩, trivial⟩
        · exact hk
        · omega
        · rfl
        · rfl
        · rw [take_snoc hof, map_snoc]; rfl
      · -- c19 False
        obtain rfl : k = xs.length := by have h := c19; rw [hM] at h; simp at h; omega
        rw [show (offs xs).take xs.length = offs xs by rw [← offs_len]; exact List.take_length]
        have hne : offs xs ≠ [] := fun e => hok.2 (by rw [← offs_len, e]; rfl)
        refine AC.exit rfl ?_
        refine AC.seq ?_
        refine AC.region ?_
        refine AO.yld _ (Yld.move rfl) rfl rfl rfl ?_
        refine AO.freeze 0 rfl ?_
        refine AO.callW (wantedN rfl) [1] [] [0] rfl rfl Try.call58 rfl (spec_l22Order_c (ks := offs xs) (by rw [offs_len]; omega)) (.flat (.view rfl rfl .nil) (fun _ => by simp [AV.Flat, AV.FlatL, PV.Flat, PV.FlatL]) (fun _ => ⟨flat_map flatI _, trivial⟩)) rfl (fun _ => rfl) trivial rfl (fun _ => rfl) (fun _ => rfl) (fun _ _ => ?_)
        have hOl : ((ordK (offs xs) xs.length).map Go.V.encI).length = xs.length := by rw [List.length_map, ordK_length]
        rw [show (offs xs).length = xs.length from offs_len xs]
        obtain ⟨qm, hqm⟩ : ∃ q, q = (xs.length - 1) / 2 := ⟨_, rfl⟩
        obtain ⟨y9, hy9⟩ := get_some (xs := ordK (offs xs) xs.length) (k := qm) (by rw [ordK_length]; omega)
        obtain ⟨m9, rfl, hm9⟩ := ordK_get y9 (List.mem_of_getElem? hy9)
        obtain ⟨v9, hv9⟩ := get_some (xs := offs xs) (k := m9) (by rw [offs_len]; omega)
        obtain rfl : v9 = medV (offs xs) := ord_med hne (by rw [offs_len, ← hqm]; exact hy9) hv9
        have hrq := map_row (enc := Go.V.encI) hy9
        have hrm := map_row (enc := Go.V.encI) hv9
        refine AO.yld _ (Yld.assign rfl) rfl rfl rfl ?_
        refine AO.nil ?_
        refine AC.seq ?_
        refine AC.region ?_
        refine AO.yld _ (Yld.move rfl) rfl rfl rfl ?_
        refine AO.yld _ (Yld.move rfl) rfl rfl rfl ?_
        refine AO.yld _ (Yld.move rfl) rfl rfl rfl ?_
        refine AO.yld _ (Yld.len Try.underlying42 rfl rfl) rfl rfl rfl ?_
        refine AO.yld _ (Yld.sub rfl rfl (by omega) (by omega)) rfl rfl rfl ?_
        refine AO.yld _ (Yld.quoP rfl rfl (by decide) (by omega) (by omega)) rfl rfl rfl ?_
        refine AO.yld _ (Yld.indexVec Try.underlying42 Try.sizeOf2 rfl rfl rfl (show _ = ((qm : Nat) : Int) by rw [hOl, hqm]; exact med_idx hok.2) (by rw [hOl]; omega)) rfl rfl rfl ?_
        refine AO.yld _ (Yld.load Try.isAgg2 rfl (Eq.trans (behind_el rfl hrq) rfl)) rfl rfl rfl ?_
        refine AO.yld _ (Yld.indexSl Try.underlying42 Try.sizeOf2 rfl rfl hrm rfl) rfl rfl rfl ?_
        refine AO.yld _ (Yld.load Try.isAgg2 rfl rfl) rfl rfl rfl ?_
        refine AO.yld _ (Yld.assign rfl) rfl rfl rfl ?_
        refine AO.nil ?_
        refine AC.seq ?_
        refine AC.seq ?_
        refine AC.region ?_
        refine AO.yld _ (Yld.assign rfl) rfl rfl rfl ?_
        refine AO.nil ?_
        refine AC.block ?_
        refine AC.loopC [(5, _), (8, _)] [(1, _)] (fun (k : Nat) => [(9, .p (.v (.int .i64 (k : Int))))]) (fun (k : Nat) => []) (fun (k : Nat) => k ≤ xs.length ∧ anyTo (fun x => decide (medV (offs xs) = x)) (offs xs) k = false) (fun (k : Nat) => xs.length - k) 0 ⟨rfl, rfl, trivial⟩ ⟨rfl, trivial⟩ ⟨rfl, trivial⟩ trivial ?_ (fun k hJ => ?_)
        · exact ⟨Nat.zero_le _, rfl⟩
        · -- round
          refine AC.seq ?_
          refine AC.seq ?_
          refine AC.region ?_
          refine AO.yld _ (Yld.move rfl) rfl rfl rfl ?_
          refine AO.yld _ (Yld.move rfl) rfl rfl rfl ?_
          refine AO.yld _ (Yld.len Try.underlying42 rfl rfl) rfl rfl rfl ?_
          refine AO.yld _ (Yld.int rfl rfl rfl) rfl rfl rfl ?_
          refine AO.nil ?_
          refine AC.cond _ rfl (fun c45 => ?_) (fun c45 => ?_)
          · -- c45 True
            have hk : k < xs.length := by have h := c45; rw [hO] at h; simpa using h
            obtain ⟨x, hx⟩ := get_some hk
            have hof := offs_get hx
            have hro := map_row (enc := Go.V.encI) hof
            refine AC.skip ?_
            refine AC.seq ?_
            refine AC.block ?_
            refine AC.seq ?_
            refine AC.region ?_
            refine AO.yld _ (Yld.move rfl) rfl rfl rfl ?_
            refine AO.yld _ (Yld.move rfl) rfl rfl rfl ?_
            refine AO.yld _ (Yld.indexSl Try.underlying42 Try.sizeOf2 rfl rfl hro rfl) rfl rfl rfl ?_
            refine AO.yld _ (Yld.load Try.isAgg2 rfl rfl) rfl rfl rfl ?_
            refine AO.yld _ (Yld.move rfl) rfl rfl rfl ?_
            refine AO.yld _ (Yld.int rfl rfl rfl) rfl rfl rfl ?_
            refine AO.nil ?_
            refine AC.cond _ rfl (fun c53 => ?_) (fun c53 => ?_)
            · -- c53 True
              refine AC.seq ?_
              refine AC.region ?_
              refine AO.yld _ (Yld.move rfl) rfl rfl rfl ?_
              refine AO.yld _ (Yld.assign rfl) rfl rfl rfl ?_
              refine AO.yld _ (Yld.assign rfl) rfl rfl rfl ?_
              refine AO.nil ?_
              refine Pure.retT Try.results24 (RVs.cons (RV.tmp rfl) (RVs.cons (RV.tmp rfl) RVs.nil)) rfl ?_
              first | (unfold medianM; rw [if_neg hask]; done) | (unfold medianM; rw [if_neg hask]; rfl) | (unfold medianM; rw [if_pos hask, idx_hit hJ.2 hof (by have h9 := c53; simp at h9; simpa [eq_comm] using h9)]; done) | (unfold medianM; rw [if_pos hask, idx_hit hJ.2 hof (by have h9 := c53; simp at h9; simpa [eq_comm] using h9)]; rfl) | (exfalso; exact med_any hne hJ.2)
            · -- c53 False
              refine AC.skip ?_
              refine AC.mark ?_
              refine AC.region ?_
              refine AO.yld _ (Yld.move rfl) rfl rfl rfl ?_
              refine AO.yld _ (Yld.add rfl rfl (by omega) (by omega)) rfl rfl rfl ?_
              refine AO.yld _ (Yld.assign rfl) rfl rfl rfl ?_
              refine AO.nil ?_
              refine AC.back ⟨k + 1, ?_, ?_, ⟨?_, trivial⟩, trivial, ⟨rfl, rfl, trivial⟩, ⟨rfl, trivial⟩⟩
              · exact ⟨hk, by rw [anyTo_succ hof, hJ.2]; have h9 := c53; simp at h9; simpa [eq_comm] using h9⟩
              · omega
              · rfl
          · -- c45 False
            obtain rfl : k = xs.length := by have h := c45; rw [hO] at h; simp at h; omega
            refine AC.exit rfl ?_
            refine AC.seq ?_
            refine AC.region ?_
            refine AO.yld _ (Yld.assign rfl) rfl rfl rfl ?_
            refine AO.yld _ (Yld.assign rfl) rfl rfl rfl ?_
            refine AO.nil ?_
            refine Pure.retT Try.results24 (RVs.cons (RV.tmp rfl) (RVs.cons (RV.tmp rfl) RVs.nil)) rfl ?_
            first | (unfold medianM; rw [if_neg hask]; done) | (unfold medianM; rw [if_neg hask]; rfl) | (unfold medianM; rw [if_pos hask, idx_hit hJ.2 hof (by have h9 := c53; simp at h9; simpa [eq_comm] using h9)]; done) | (unfold medianM; rw [if_pos hask, idx_hit hJ.2 hof (by have h9 := c53; simp at h9; simpa [eq_comm] using h9)]; rfl) | (exfalso; exact med_any hne hJ.2)

theorem valuesI_c {xs : List Int} :
    FnE (α := Unit) Try.prog 54 [.p (.sl 1 (xs.map Go.V.encI))] [] [] (fun _ => True) (fun _ => .clo 80 [.p (.ptr [.sl 1 (xs.map Go.V.encI)])]) (fun _ => []) := by
  refine FnE.intro Try.func54 rfl Try.ntmps54 rfl rfl (fun w0 F0 η φ w => ?_)
  refine AC.seq ?_
  refine AC.region ?_
  refine AO.box 0 rfl rfl rfl rfl rfl ?_
  refine AO.yld _ (Yld.assign rfl) rfl rfl rfl ?_
  refine AO.nil ?_
  refine AC.seq ?_
  refine AC.region ?_
  refine AO.freezeB 0 rfl rfl ?_
  refine AO.yld _ (Yld.makeFunc rfl) rfl rfl rfl ?_
  refine AO.yld _ (Yld.assign rfl) rfl rfl rfl ?_
  refine AO.nil ?_
  refine FnE.ret () [] [] Try.results54 (RVs.cons (RV.tmp rfl) RVs.nil) rfl rfl rfl ?_ ?_ trivial
  · -- holds
    trivial
  · -- value
    rfl

theorem impl_MedianMachine_c {xs : List Mach} (hn : xs.length ≤ 1048576) (hs : ∀ x ∈ xs, x.name.length ≤ 1048576) :
    Pure Try.prog 22 [.sl 3 (xs.map encMach)] (.tup [.v (.int .i64 (medianM xs).1), .v (.int .i64 (medianM xs).2)]) := by
  have hM : (xs.map encMach).length = xs.length := List.length_map ..
  have hO := offs_len xs
  have hSl : ((sortZ (offs xs)).map Go.V.encI).length = xs.length := by rw [List.length_map, sortZ_len, offs_len]
  refine Pure.intro Try.func22 rfl Try.ntmps22 rfl rfl (fun w => ?_)
  refine AC.seq ?_
  refine AC.region ?_
  refine AO.yld _ (Yld.assign rfl) rfl rfl rfl ?_
  refine AO.yld _ (Yld.assign rfl) rfl rfl rfl ?_
  refine AO.nil ?_
  refine AC.seq ?_
  refine AC.seq ?_
  refine AC.region ?_
  refine AO.yld _ (Yld.move rfl) rfl rfl rfl ?_
  refine AO.yld _ (Yld.call rfl rfl Try.call51 rfl rfl rfl (impl_checkMachines_c (by first | assumption | omega) (by assumption)) rfl) rfl rfl rfl ?_
  refine AO.yld _ (Yld.assign rfl) rfl rfl rfl ?_
  refine AO.nil ?_
  refine AC.seq ?_
  refine AC.region ?_
  refine AO.yld _ (Yld.move rfl) rfl rfl rfl ?_
  refine AO.yld _ (Yld.int rfl rfl rfl) rfl rfl rfl ?_
  refine AO.nil ?_
  refine AC.cond _ rfl (fun c12 => ?_) (fun c12 => ?_)
  · -- c12 True
    have hask : ¬ askMachines xs = 0 := by simpa using c12
    refine AC.seq ?_
    refine AC.region ?_
    refine AO.yld _ (Yld.move rfl) rfl rfl rfl ?_
    refine AO.yld _ (Yld.assign rfl) rfl rfl rfl ?_
    refine AO.yld _ (Yld.assign rfl) rfl rfl rfl ?_
    refine AO.nil ?_
    refine Pure.retT Try.results22 (RVs.cons (RV.tmp rfl) (RVs.cons (RV.tmp rfl) RVs.nil)) rfl ?_
    first | (unfold medianM; rw [if_neg hask]; done) | (unfold medianM; rw [if_neg hask]; rfl) | (unfold medianM; rw [if_pos hask])
  · -- c12 False
    have hask : askMachines xs = 0 := by simpa using c12
    have hok := ask_ok hask
    have hl8 := machines_len hok.1
    refine AC.skip ?_
    refine AC.seq ?_
    refine AC.region ?_
    refine AO.yld _ (Yld.move rfl) rfl rfl rfl ?_
    refine AO.yld _ (Yld.len Try.underlying38 rfl rfl) rfl rfl rfl ?_
    refine AO.make 0 Try.underlying42 ty2 rfl rfl rfl rfl rfl (Nat.le_refl _) (by rw [hM]; omega) (by rw [hM]; omega) rfl rfl ?_
    refine AO.yld _ (Yld.assign rfl) rfl rfl rfl ?_
    refine AO.nil ?_
    refine AC.seq ?_
    refine AC.seq ?_
    refine AC.region ?_
    refine AO.yld _ (Yld.move rfl) rfl rfl rfl ?_
    refine AO.yld _ (Yld.len Try.underlying38 rfl rfl) rfl rfl rfl ?_
    refine AO.yld _ (Yld.move rfl) rfl rfl rfl ?_
    refine AO.nil ?_
    refine AC.block ?_
    refine AC.loopC [(2, _), (3, _), (5, _), (17, _), (18, _)] [] (fun (k : Nat) => [(19, .p (.v (.int .i64 (k : Int)))), (5, .h 0)]) (fun (k : Nat) => [(0, .vec 2 1 (filled Go.V.encI [.v (.int .i64 0)] (offs xs) k))]) (fun (k : Nat) => k ≤ xs.length) (fun (k : Nat) => xs.length - k) 0 ⟨rfl, rfl, rfl, rfl, rfl, trivial⟩ trivial ⟨rfl, rfl, trivial⟩ ⟨by rw [filled_zero, hO, ← hM]; rfl, trivial⟩ ?_ (fun k hJ => ?_)
    · exact Nat.zero_le _
    · -- round
      refine AC.seq ?_
      refine AC.region ?_
      refine AO.yld _ (Yld.int rfl rfl rfl) rfl rfl rfl ?_
      refine AO.nil ?_
      refine AC.seq ?_
      refine AC.cond _ rfl (fun c20 => ?_) (fun c20 => ?_)
      · -- c20 True
        have hk : k < xs.length := by have h := c20; rw [hM] at h; simpa using h
        obtain ⟨x, hx⟩ := get_some hk
        have hrow := map_row (enc := encMach) hx
        have hof := offs_get hx
        refine AC.skip ?_
        refine AC.seq ?_
        refine AC.block ?_
        refine AC.seq ?_
        refine AC.region ?_
        refine AO.yld _ (Yld.move rfl) rfl rfl rfl ?_
        refine AO.yld _ (Yld.indexSl Try.underlying38 Try.sizeOf48 rfl rfl hrow rfl) rfl rfl rfl ?_
        refine AO.yld _ (Yld.loadAgg Try.isAgg48 Try.sizeOf48 rfl rfl rfl rfl) rfl rfl rfl ?_
        refine AO.alloc 1 Try.zeroValue48 rfl rfl rfl ?_
        refine AO.yld _ (Yld.assign rfl) rfl rfl rfl ?_
        refine AO.store Try.sizeOf48 rfl rfl rfl rfl rfl rfl ?_
        refine AO.nil ?_
        refine AC.region ?_
        refine AO.yld _ (Yld.move rfl) rfl rfl rfl ?_
        refine AO.yld _ (Yld.move rfl) rfl rfl rfl ?_
        refine AO.yld _ (Yld.fieldAddr Try.underlying48 rfl rfl Try.sizeOf2 rfl rfl rfl) rfl rfl rfl ?_
        refine AO.yld _ (Yld.load Try.isAgg2 rfl rfl) rfl rfl rfl ?_
        refine AO.yld _ (Yld.indexVec Try.underlying42 Try.sizeOf2 rfl rfl rfl rfl (by rw [filled_length (by omega)]; omega)) rfl rfl rfl ?_
        refine AO.store Try.sizeOf2 rfl rfl rfl rfl rfl (store_el rfl (filled_get (by omega)) rfl rfl) ?_
        refine AO.nil ?_
        refine AC.mark ?_
        refine AC.region ?_
        refine AO.yld _ (Yld.add rfl rfl (by omega) (by omega)) rfl rfl rfl ?_
        refine AO.yld _ (Yld.move rfl) rfl rfl rfl ?_
        refine AO.nil ?_
        refine AC.back ⟨k + 1, ?_, ?_, ⟨?_, ?_, trivial⟩, ⟨?_, trivial⟩, ⟨rfl, rfl, rfl, rfl, rfl, trivial⟩, trivial⟩
        · exact hk
        · omega
        · rfl
        · rfl
        · rw [← filled_set hof]; rfl
      · -- c20 False
        obtain rfl : k = xs.length := by have h := c20; rw [hM] at h; simp at h; omega
        rw [show filled Go.V.encI [.v (.int .i64 0)] (offs xs) xs.length = (offs xs).map Go.V.encI by rw [← hO]; exact filled_end]
        have hne : offs xs ≠ [] := fun e => hok.2 (by rw [← offs_len, e]; rfl)
        have hrq := map_row (enc := Go.V.encI) (med_get hne)
        refine AC.exit rfl ?_
        refine AC.seq ?_
        refine AC.region ?_
        refine AO.yld _ (Yld.move rfl) rfl rfl rfl ?_
        refine AO.freeze 0 rfl ?_
        refine AO.callW (wantedN rfl) [] [] [] rfl rfl Try.call54 rfl (valuesI_c) (.own rfl) rfl (fun _ => rfl) trivial rfl (fun _ => rfl) (fun _ => rfl) (fun _ _ => ?_)
        refine AO.callMk 1 rfl rfl Try.call53 rfl rfl rfl (sorted_mk (zs := offs xs) (by omega)) (by simp [AV.Flat, AV.FlatL, PV.Flat, PV.FlatL]) (flat_map flatI _) rfl rfl ?_
        refine AO.yld _ (Yld.assign rfl) rfl rfl rfl ?_
        refine AO.nil ?_
        refine AC.seq ?_
        refine AC.region ?_
        refine AO.yld _ (Yld.move rfl) rfl rfl rfl ?_
        refine AO.yld _ (Yld.move rfl) rfl rfl rfl ?_
        refine AO.yld _ (Yld.move rfl) rfl rfl rfl ?_
        refine AO.yld _ (Yld.len Try.underlying42 rfl rfl) rfl rfl rfl ?_
        refine AO.yld _ (Yld.sub rfl rfl (by omega) (by omega)) rfl rfl rfl ?_
        refine AO.yld _ (Yld.quoP rfl rfl (by decide) (by omega) (by omega)) rfl rfl rfl ?_
        refine AO.yld _ (Yld.indexVec Try.underlying42 Try.sizeOf2 rfl rfl rfl (show _ = ((((offs xs).length - 1) / 2 : Nat) : Int) by rw [List.length_map, sortZ_len]; exact med_idx (by rw [hO]; exact hok.2)) (by rw [List.length_map, sortZ_len, hO]; have := hok.2; omega)) rfl rfl rfl ?_
        refine AO.yld _ (Yld.load Try.isAgg2 rfl (Eq.trans (behind_el rfl hrq) rfl)) rfl rfl rfl ?_
        refine AO.yld _ (Yld.call rfl rfl Try.call55 rfl rfl rfl (indexInt_c (xs := offs xs) (by omega)) rfl) rfl rfl rfl ?_
        refine AO.yld _ (Yld.assign rfl) rfl rfl rfl ?_
        refine AO.yld _ (Yld.assign rfl) rfl rfl rfl ?_
        refine AO.nil ?_
        refine Pure.retT Try.results22 (RVs.cons (RV.tmp rfl) (RVs.cons (RV.tmp rfl) RVs.nil)) rfl ?_
        first | (unfold medianM; rw [if_neg hask]; done) | (unfold medianM; rw [if_neg hask]; rfl) | (unfold medianM; rw [if_pos hask])

end Go.Proofs.Ytdpanmnnfamfmaa
