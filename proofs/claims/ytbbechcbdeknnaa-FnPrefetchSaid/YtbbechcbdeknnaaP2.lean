/- Contracts of functions of the program, each by a walk of its text in the calculus V. -/
import Derived.Test.YtbbechcbdeknnaaP1
set_option linter.all false
set_option linter.unusedSimpArgs false
set_option linter.unnecessarySimpa false
set_option linter.unusedVariables false
namespace Go.Proofs.Ytbbechcbdeknnaa
open Go Go.V
theorem ty31 : TyIs Try.prog 31 (.agg #[.string ⟨#[]⟩, .int .i64 0]) 2 24 := by unfold TyIs; kernel_rfl
theorem bld31 : BuildIs Try.prog 31 [(0, 1), (1, 1)] (.agg #[.string ⟨#[]⟩, .int .i64 0]) := by
  intro ps cells w h
  have h2 : Instr.fill (fun i => ([(0, 1), (1, 1)] : List (Nat × Nat))[i]?) #[.string ⟨#[]⟩, .int .i64 0] ps.toList = some cells := h
  simp [Instr.build, go_sem, Try.zeroValue31, run_underlying Try.underlying31, Try.sizeOf2, Try.sizeOf9, h2]

theorem laws_r8Long_c {code more : List UInt8} :
    Pure Try.prog 4 [.sl 1 (code.map encB), .sl 1 (more.map encB)] (.v (.bool (decide ((code.length : Int) > 1048576) || decide ((more.length : Int) > 1048576)))) := by
  refine Pure.intro Try.func4 rfl Try.ntmps4 rfl rfl (fun w => ?_)
  refine AC.seq ?_
  refine AC.region ?_
  refine AO.yld _ (Yld.assign rfl) rfl rfl rfl ?_
  refine AO.nil ?_
  refine AC.seq ?_
  refine AC.region ?_
  refine AO.yld _ (Yld.move rfl) rfl rfl rfl ?_
  refine AO.yld _ (Yld.len Try.underlying22 rfl rfl) rfl rfl rfl ?_
  refine AO.yld _ (Yld.int rfl rfl rfl) rfl rfl rfl ?_
  refine AO.yld _ (Yld.move rfl) rfl rfl rfl ?_
  refine AO.splitAt 8 _ rfl (fun s8 => ?_) (fun s8 => ?_)
  · -- s8 True
    refine AO.skipF rfl rfl rfl rfl rfl ?_
    refine AO.skipF rfl rfl rfl rfl rfl ?_
    refine AO.skipF rfl rfl rfl rfl rfl ?_
    refine AO.yld _ (Yld.pickT rfl rfl) rfl rfl rfl ?_
    refine AO.yld _ (Yld.assign rfl) rfl rfl rfl ?_
    refine AO.nil ?_
    refine Pure.ret Try.results4 (RVs.cons (RV.tmp rfl) RVs.nil) rfl ?_
    refine cb ?_; simp only [List.length_map] at *; first | (simp_all; done) | grind
  · -- s8 False
    refine AO.yldG _ (Yld.move rfl) rfl rfl rfl rfl rfl ?_
    refine AO.yldG _ (Yld.len Try.underlying22 rfl rfl) rfl rfl rfl rfl rfl ?_
    refine AO.yldG _ (Yld.int rfl rfl rfl) rfl rfl rfl rfl rfl ?_
    refine AO.yld _ (Yld.pickF rfl rfl) rfl rfl rfl ?_
    refine AO.yld _ (Yld.assign rfl) rfl rfl rfl ?_
    refine AO.nil ?_
    refine Pure.ret Try.results4 (RVs.cons (RV.tmp rfl) RVs.nil) rfl ?_
    refine cb ?_; simp only [List.length_map] at *; first | (simp_all; done) | grind

theorem laws_r8At_c {l : List UInt8} {k n : Int} (h0 : 0 ≤ k) :
    Pure Try.prog 6 [.sl 1 (l.map encB), .v (.int .i64 k), .v (.int .i64 n)] (.v (.int .i64 (r8At l k n))) := by
  have hM : (l.map encB).length = l.length := List.length_map ..
  refine Pure.intro Try.func6 rfl Try.ntmps6 rfl rfl (fun w => ?_)
  refine AC.seq ?_
  refine AC.region ?_
  refine AO.yld _ (Yld.assign rfl) rfl rfl rfl ?_
  refine AO.nil ?_
  refine AC.seq ?_
  refine AC.seq ?_
  refine AC.region ?_
  refine AO.yld _ (Yld.move rfl) rfl rfl rfl ?_
  refine AO.yld _ (Yld.int rfl rfl rfl) rfl rfl rfl ?_
  refine AO.yld _ (Yld.move rfl) rfl rfl rfl ?_
  refine AO.splitAt 9 _ rfl (fun s9 => ?_) (fun s9 => ?_)
  · -- s9 True
    refine AO.skipF rfl rfl rfl rfl rfl ?_
    refine AO.skipF rfl rfl rfl rfl rfl ?_
    refine AO.skipF rfl rfl rfl rfl rfl ?_
    refine AO.skipF rfl rfl rfl rfl rfl ?_
    refine AO.yld _ (Yld.pickT rfl rfl) rfl rfl rfl ?_
    refine AO.nil ?_
    refine AC.condT rfl ?_
    refine AC.seq ?_
    refine AC.region ?_
    refine AO.yld _ (Yld.assign rfl) rfl rfl rfl ?_
    refine AO.nil ?_
    refine Pure.ret Try.results6 (RVs.cons (RV.tmp rfl) RVs.nil) rfl ?_
    first | exact ci (r8At_hit hn1 hk hc).symm | exact ci (r8At_no (.inl (by simpa using s9))).symm | exact ci (r8At_no (.inr (by have h := c14; rw [hM] at h; simpa using h))).symm
  · -- s9 False
    refine AO.yldG _ (Yld.move rfl) rfl rfl rfl rfl rfl ?_
    refine AO.yldG _ (Yld.move rfl) rfl rfl rfl rfl rfl ?_
    refine AO.yldG _ (Yld.len Try.underlying22 rfl rfl) rfl rfl rfl rfl rfl ?_
    refine AO.yldG _ (Yld.int rfl rfl rfl) rfl rfl rfl rfl rfl ?_
    refine AO.yld _ (Yld.pickF rfl rfl) rfl rfl rfl ?_
    refine AO.nil ?_
    refine AC.cond _ rfl (fun c14 => ?_) (fun c14 => ?_)
    · -- c14 True
      refine AC.seq ?_
      refine AC.region ?_
      refine AO.yld _ (Yld.assign rfl) rfl rfl rfl ?_
      refine AO.nil ?_
      refine Pure.ret Try.results6 (RVs.cons (RV.tmp rfl) RVs.nil) rfl ?_
      first | exact ci (r8At_hit hn1 hk hc).symm | exact ci (r8At_no (.inl (by simpa using s9))).symm | exact ci (r8At_no (.inr (by have h := c14; rw [hM] at h; simpa using h))).symm
    · -- c14 False
      have hn1 : ¬ n ≤ 1 := by simpa using s9
      have hk : k < l.length := by have h := c14; rw [hM] at h; simp at h; omega
      obtain ⟨c, hc⟩ := get_some (xs := l) (k := k.toNat) (by omega)
      have hrow := map_row (enc := encB) hc
      refine AC.skip ?_
      refine AC.seq ?_
      refine AC.region ?_
      refine AO.yld _ (Yld.move rfl) rfl rfl rfl ?_
      refine AO.yld _ (Yld.move rfl) rfl rfl rfl ?_
      refine AO.yld _ (Yld.indexSl Try.underlying22 Try.sizeOf5 rfl rfl hrow (by omega)) rfl rfl rfl ?_
      refine AO.yld _ (Yld.load Try.isAgg5 rfl rfl) rfl rfl rfl ?_
      refine AO.yld _ (Yld.convInt Try.underlying5 Try.underlying2 rfl) rfl rfl rfl ?_
      refine AO.yld _ (Yld.move rfl) rfl rfl rfl ?_
      refine AO.yld _ (Yld.rem rfl rfl (by omega)) rfl rfl rfl ?_
      refine AO.yld _ (Yld.assign rfl) rfl rfl rfl ?_
      refine AO.nil ?_
      refine Pure.ret Try.results6 (RVs.cons (RV.tmp rfl) RVs.nil) rfl ?_
      first | exact ci (r8At_hit hn1 hk hc).symm | exact ci (r8At_no (.inl (by simpa using s9))).symm | exact ci (r8At_no (.inr (by have h := c14; rw [hM] at h; simpa using h))).symm

theorem impl_LoadPlan_g {ms xs : List NV} (hm : ms.length ≤ 1048576) (hms : ∀ x ∈ ms, x.name.length ≤ 1048576) (hn : xs.length ≤ 1048576) (hs : ∀ x ∈ xs, x.name.length ≤ 1048576) {b : Int} (h : askNeeds ms xs b = 0) :
    FnE (α := Unit) Try.prog 7 [.p (.sl 2 (ms.map encNV)), .p (.sl 2 (xs.map encNV)), .p (.v (.int .i64 b))] [] [] (fun _ => True) (fun _ => .tup [.h 0, .p (.v (.int .i64 0))]) (fun _ => [(0, .vec 2 1 ((planL ms xs b xs.length).map encI))]) := by
  have h9 := impl_LoadPlan_c hm hms hn hs (b := b)
  rw [plan_all h] at h9
  exact h9

theorem laws_FnPrefetch_c {code more : List UInt8} :
    Pure Try.prog 3 [.sl 1 (code.map encB), .sl 1 (more.map encB)] (.v (.bool true)) := by
  refine Pure.intro Try.func3 rfl Try.ntmps3 rfl rfl (fun w => ?_)
  refine AC.seq ?_
  refine AC.region ?_
  refine AO.yld _ (Yld.assign rfl) rfl rfl rfl ?_
  refine AO.nil ?_
  refine AC.seq ?_
  refine AC.seq ?_
  refine AC.region ?_
  refine AO.yld _ (Yld.move rfl) rfl rfl rfl ?_
  refine AO.yld _ (Yld.move rfl) rfl rfl rfl ?_
  refine AO.yld _ (Yld.call rfl rfl Try.call4 rfl rfl rfl (laws_r8Long_c) rfl) rfl rfl rfl ?_
  refine AO.nil ?_
  refine AC.cond _ rfl (fun c25 => ?_) (fun c25 => ?_)
  · -- c25 True
    refine AC.seq ?_
    refine AC.region ?_
    refine AO.yld _ (Yld.assign rfl) rfl rfl rfl ?_
    refine AO.nil ?_
    refine Pure.ret Try.results3 (RVs.cons (RV.tmp rfl) RVs.nil) rfl ?_
    first
      | rfl
      | (refine cb ?_; simp [hll1]; done)
      | (refine cb ?_; have h9 := c162; rcases hd3 with h | h <;> simp_all; done)
      | (refine cb ?_; rw [hlt4]; simp; omega)
      | (simp_all; done)
  · -- c25 False
    refine AC.skip ?_
    refine AC.seq ?_
    refine AC.region ?_
    refine AO.yld _ (Yld.move rfl) rfl rfl rfl ?_
    refine AO.callW (wantedN rfl) [0] [] [0] rfl rfl Try.call5 rfl (spec_R8Media_c) (.own rfl) rfl (fun _ => rfl) trivial rfl (fun _ => rfl) (fun _ => rfl) (fun ms27 hms27 => ?_)
    refine AO.yld _ (Yld.assign rfl) rfl rfl rfl ?_
    refine AO.nil ?_
    refine AC.seq ?_
    refine AC.region ?_
    refine AO.buildSlice (rows := []) 1 Try.underlying26 ty31 rfl rfl rfl rfl rfl rfl rfl rfl rfl ?_
    refine AO.yld _ (Yld.assign rfl) rfl rfl rfl ?_
    refine AO.nil ?_
    refine AC.seq ?_
    refine AC.region ?_
    refine AO.yld _ (Yld.assign rfl) rfl rfl rfl ?_
    refine AO.nil ?_
    refine AC.seq ?_
    refine AC.seq ?_
    refine AC.region ?_
    refine AO.yld _ (Yld.assign rfl) rfl rfl rfl ?_
    refine AO.nil ?_
    refine AC.block ?_
    refine AC.loopC3 [(1, _), (4, _), (5, _)] [(0, _)] (fun (k : Nat) (xs : List NV) (T : Int) => [(8, .p (.v (.int .i64 (k : Int)))), (7, .p (.v (.int .i64 T))), (6, .h 1)]) (fun (k : Nat) (xs : List NV) (T : Int) => [(1, .vec 31 2 (xs.map encNV))]) (fun (k : Nat) (xs : List NV) (T : Int) => NeedsOf ms27 xs T ∧ xs.length = k ∧ k ≤ ms27.length) (fun (k : Nat) (xs : List NV) (T : Int) => ms27.length - k) 0 [] 100 ⟨rfl, rfl, rfl, trivial⟩ ⟨rfl, trivial⟩ ⟨rfl, rfl, rfl, trivial⟩ ⟨rfl, trivial⟩ ?_ (fun k xs T hJ => ?_)
    · exact ⟨needs_nil _, rfl, Nat.zero_le _⟩
    · -- round
      refine AC.seq ?_
      refine AC.seq ?_
      refine AC.region ?_
      refine AO.yld _ (Yld.move rfl) rfl rfl rfl ?_
      refine AO.yld _ (Yld.move rfl) rfl rfl rfl ?_
      refine AO.yld _ (Yld.len Try.underlying24 rfl rfl) rfl rfl rfl ?_
      refine AO.yld _ (Yld.int rfl rfl rfl) rfl rfl rfl ?_
      refine AO.nil ?_
      refine AC.cond _ rfl (fun c32 => ?_) (fun c32 => ?_)
      · -- c32 True
        have hk : k < ms27.length := by have h := c32; simpa using h
        obtain ⟨x, hx⟩ := get_some hk
        have hrow := map_row (enc := encNV) hx
        have hr := r8At_lim (l := more) (k := k) (n := 40) (by omega)
        have hT2 := hJ.1.2.1
        have hT3 := hJ.1.2.2.1
        have hm6 := hms27.1
        have hxl := hJ.2.1
        refine AC.skip ?_
        refine AC.seq ?_
        refine AC.block ?_
        refine AC.seq ?_
        refine AC.region ?_
        refine AO.yld _ (Yld.move rfl) rfl rfl rfl ?_
        refine AO.yld _ (Yld.move rfl) rfl rfl rfl ?_
        refine AO.yld _ (Yld.move rfl) rfl rfl rfl ?_
        refine AO.yld _ (Yld.call rfl rfl Try.call6 rfl rfl rfl (laws_r8At_c (by omega)) rfl) rfl rfl rfl ?_
        refine AO.yld _ (Yld.mul rfl rfl (by omega) (by omega)) rfl rfl rfl ?_
        refine AO.yld _ (Yld.add rfl rfl (by omega) (by omega)) rfl rfl rfl ?_
        refine AO.yld _ (Yld.assign rfl) rfl rfl rfl ?_
        refine AO.nil ?_
        refine AC.region ?_
        refine AO.yld _ (Yld.move rfl) rfl rfl rfl ?_
        refine AO.yld _ (Yld.move rfl) rfl rfl rfl ?_
        refine AO.yld _ (Yld.move rfl) rfl rfl rfl ?_
        refine AO.yld _ (Yld.indexVec Try.underlying24 Try.sizeOf29 rfl rfl rfl rfl (by simpa using hk)) rfl rfl rfl ?_
        refine AO.yld _ (Yld.fieldAddr Try.underlying29 rfl rfl Try.sizeOf9 rfl (behind_el rfl hrow) rfl) rfl rfl rfl ?_
        refine AO.yld _ (Yld.load Try.isAgg9 rfl (Eq.trans (behind_el rfl hrow) rfl)) rfl rfl rfl ?_
        refine AO.yld _ (Yld.move rfl) rfl rfl rfl ?_
        refine AO.yld _ (Yld.buildA (zs := [.v (str []), .v (.int .i64 0)]) bld31 rfl rfl) rfl rfl rfl ?_
        refine AO.buildSlice (rows := [[_, _]]) 2 Try.underlying26 ty31 rfl rfl rfl rfl rfl rfl rfl rfl rfl ?_
        refine AO.append 1 Try.underlying26 ty31 rfl rfl rfl rfl rfl rfl rfl (by simp [pvOne, str]) (by simp only [List.length_map, List.length_cons, List.length_nil]; omega) (by simp only [List.length_map, List.length_cons, List.length_nil]; omega) rfl ?_
        refine AO.yld _ (Yld.assign rfl) rfl rfl rfl ?_
        refine AO.nil ?_
        refine AC.mark ?_
        refine AC.region ?_
        refine AO.yld _ (Yld.move rfl) rfl rfl rfl ?_
        refine AO.yld _ (Yld.add rfl rfl (by omega) (by omega)) rfl rfl rfl ?_
        refine AO.yld _ (Yld.assign rfl) rfl rfl rfl ?_
        refine AO.nil ?_
        refine AC.back ⟨k + 1, xs ++ [⟨x.name, T + 100 * r8At more k 40⟩], T + 100 * r8At more k 40, ?_, ?_, ⟨?_, ?_, ?_, trivial⟩, ⟨?_, trivial⟩, ⟨rfl, rfl, rfl, trivial⟩, ⟨rfl, trivial⟩⟩
        · exact ⟨needs_add hJ.1 (by rw [hJ.2.1]; exact hx) (by omega) (by omega), by simp [hJ.2.1], hk⟩
        · omega
        · rfl
        · rfl
        · rfl
        · rw [map_snoc]; rfl
      · -- c32 False
        obtain rfl : k = ms27.length := by have h := c32; simp at h; omega
        have hw := r8At_lim (l := more) (k := 20) (n := 60) (by omega)
        have hxl := hJ.2.1
        have hm6 := hms27.1
        have hfit := needs_fit hms27 hJ.1
        have hmL : ms27.length ≤ 1048576 := by omega
        have hmN := drawn_names hms27
        have hxL : xs.length ≤ 1048576 := by omega
        have hxN := needs_names hms27 hJ.1
        have hask : askNeeds ms27 xs (1 + r8At more 20 60) = 0 := ask_zero hfit (by omega) (by omega)
        have hlat := late_zero hask
        refine AC.exit rfl ?_
        refine AC.seq ?_
        refine AC.region ?_
        refine AO.yld _ (Yld.move rfl) rfl rfl rfl ?_
        refine AO.yld _ (Yld.call rfl rfl Try.call6 rfl rfl rfl (laws_r8At_c (by omega)) rfl) rfl rfl rfl ?_
        refine AO.yld _ (Yld.add rfl rfl (by omega) (by omega)) rfl rfl rfl ?_
        refine AO.yld _ (Yld.assign rfl) rfl rfl rfl ?_
        refine AO.nil ?_
        refine AC.seq ?_
        refine AC.region ?_
        refine AO.yld _ (Yld.move rfl) rfl rfl rfl ?_
        refine AO.yld _ (Yld.move rfl) rfl rfl rfl ?_
        refine AO.yld _ (Yld.move rfl) rfl rfl rfl ?_
        refine AO.callW (wantedN rfl) [2] [] [0] rfl rfl Try.call7 rfl (impl_LoadPlan_g (by assumption) (by assumption) (by assumption) (by assumption) (by assumption)) (.flat (.view rfl rfl (.view rfl rfl (.view rfl rfl .nil))) (fun _ => by simp [AV.Flat, AV.FlatL, PV.Flat, PV.FlatL]) (fun _ => ⟨flat_map flatI _, trivial⟩)) rfl (fun _ => rfl) trivial rfl (fun _ => rfl) (fun _ => rfl) (fun _ _ => ?_)
        refine AO.yld _ (Yld.move rfl) rfl rfl rfl ?_
        refine AO.yld _ (Yld.extract rfl rfl rfl) rfl rfl rfl ?_
        refine AO.yld _ (Yld.extract rfl rfl rfl) rfl rfl rfl ?_
        refine AO.yld _ (Yld.assign rfl) rfl rfl rfl ?_
        refine AO.yld _ (Yld.assign rfl) rfl rfl rfl ?_
        refine AO.nil ?_
        refine AC.seq ?_
        refine AC.region ?_
        refine AO.yld _ (Yld.move rfl) rfl rfl rfl ?_
        refine AO.yld _ (Yld.move rfl) rfl rfl rfl ?_
        refine AO.yld _ (Yld.move rfl) rfl rfl rfl ?_
        refine AO.yld _ (Yld.call rfl rfl Try.call8 rfl rfl rfl (impl_LatenessOf_c (by first | assumption | omega) (by assumption) (by first | assumption | omega) (by assumption)) rfl) rfl rfl rfl ?_
        refine AO.yld _ (Yld.move rfl) rfl rfl rfl ?_
        refine AO.yld _ (Yld.extract rfl rfl rfl) rfl rfl rfl ?_
        refine AO.yld _ (Yld.extract rfl rfl rfl) rfl rfl rfl ?_
        refine AO.yld _ (Yld.assign rfl) rfl rfl rfl ?_
        refine AO.yld _ (Yld.assign rfl) rfl rfl rfl ?_
        refine AO.nil ?_
        refine AC.seq ?_
        refine AC.region ?_
        refine AO.yld _ (Yld.move rfl) rfl rfl rfl ?_
        refine AO.yld _ (Yld.move rfl) rfl rfl rfl ?_
        refine AO.yld _ (Yld.move rfl) rfl rfl rfl ?_
        refine AO.callW (wantedN rfl) [3] [] [0] rfl rfl Try.call9 rfl (impl_LatestLoads_c (by first | assumption | omega) (by assumption) (by first | assumption | omega) (by assumption)) (.flat (.view rfl rfl (.view rfl rfl (.view rfl rfl .nil))) (fun _ => by simp [AV.Flat, AV.FlatL, PV.Flat, PV.FlatL]) (fun _ => ⟨flat_map flatI _, trivial⟩)) rfl (fun _ => rfl) trivial rfl (fun _ => rfl) (fun _ => rfl) (fun _ _ => ?_)
        refine AO.yld _ (Yld.move rfl) rfl rfl rfl ?_
        refine AO.yld _ (Yld.extract rfl rfl rfl) rfl rfl rfl ?_
        refine AO.yld _ (Yld.extract rfl rfl rfl) rfl rfl rfl ?_
        refine AO.yld _ (Yld.assign rfl) rfl rfl rfl ?_
        refine AO.yld _ (Yld.assign rfl) rfl rfl rfl ?_
        refine AO.nil ?_
        refine AC.seq ?_
        refine AC.seq ?_
        refine AC.region ?_
        refine AO.yld _ (Yld.move rfl) rfl rfl rfl ?_
        refine AO.yld _ (Yld.move rfl) rfl rfl rfl ?_
        refine AO.yld _ (Yld.call rfl rfl Try.call10 rfl rfl rfl (impl_ValidNeeds_c (by first | assumption | omega) (by assumption) (by first | assumption | omega) (by assumption)) rfl) rfl rfl rfl ?_
        refine AO.yld _ (Yld.not rfl) rfl rfl rfl ?_
        refine AO.yld _ (Yld.move rfl) rfl rfl rfl ?_
        refine AO.splitAt 79 _ rfl (fun s79 => ?_) (fun s79 => ?_)
        · -- s79 True
          refine AO.skipF rfl rfl rfl rfl rfl ?_
          refine AO.skipF rfl rfl rfl rfl rfl ?_
          refine AO.yld _ (Yld.pickT rfl rfl) rfl rfl rfl ?_
          refine AO.yld _ (Yld.move rfl) rfl rfl rfl ?_
          refine AO.skipF rfl rfl rfl rfl rfl ?_
          refine AO.skipF rfl rfl rfl rfl rfl ?_
          refine AO.skipF rfl rfl rfl rfl rfl ?_
          refine AO.skipF rfl rfl rfl rfl rfl ?_
          refine AO.skipF rfl rfl rfl rfl rfl ?_
          refine AO.yld _ (Yld.pickT rfl rfl) rfl rfl rfl ?_
          refine AO.nil ?_
          refine AC.condT rfl ?_
          refine AC.seq ?_
          refine AC.region ?_
          refine AO.yld _ (Yld.assign rfl) rfl rfl rfl ?_
          refine AO.nil ?_
          refine Pure.ret Try.results3 (RVs.cons (RV.tmp rfl) RVs.nil) rfl ?_
          first
            | rfl
            | (refine cb ?_; simp [hll1]; done)
            | (refine cb ?_; have h9 := c162; rcases hd3 with h | h <;> simp_all; done)
            | (refine cb ?_; rw [hlt4]; simp; omega)
            | (simp_all; done)
        · -- s79 False
          refine AO.yldG _ (Yld.move rfl) rfl rfl rfl rfl rfl ?_
          refine AO.yldG _ (Yld.int rfl rfl rfl) rfl rfl rfl rfl rfl ?_
          refine AO.yld _ (Yld.pickF rfl rfl) rfl rfl rfl ?_
          refine AO.yld _ (Yld.move rfl) rfl rfl rfl ?_
          refine AO.splitAt 83 _ rfl (fun s83 => ?_) (fun s83 => ?_)
          · -- s83 True
            refine AO.skipF rfl rfl rfl rfl rfl ?_
            refine AO.skipF rfl rfl rfl rfl rfl ?_
            refine AO.skipF rfl rfl rfl rfl rfl ?_
            refine AO.skipF rfl rfl rfl rfl rfl ?_
            refine AO.skipF rfl rfl rfl rfl rfl ?_
            refine AO.yld _ (Yld.pickT rfl rfl) rfl rfl rfl ?_
            refine AO.nil ?_
            refine AC.condT rfl ?_
            refine AC.seq ?_
            refine AC.region ?_
            refine AO.yld _ (Yld.assign rfl) rfl rfl rfl ?_
            refine AO.nil ?_
            refine Pure.ret Try.results3 (RVs.cons (RV.tmp rfl) RVs.nil) rfl ?_
            first
              | rfl
              | (refine cb ?_; simp [hll1]; done)
              | (refine cb ?_; have h9 := c162; rcases hd3 with h | h <;> simp_all; done)
              | (refine cb ?_; rw [hlt4]; simp; omega)
              | (simp_all; done)
          · -- s83 False
            refine AO.yldG _ (Yld.move rfl) rfl rfl rfl rfl rfl ?_
            refine AO.yldG _ (Yld.len Try.underlying32 rfl rfl) rfl rfl rfl rfl rfl ?_
            refine AO.yldG _ (Yld.move rfl) rfl rfl rfl rfl rfl ?_
            refine AO.yldG _ (Yld.len Try.underlying26 rfl rfl) rfl rfl rfl rfl rfl ?_
            refine AO.yldG _ (Yld.int rfl rfl rfl) rfl rfl rfl rfl rfl ?_
            refine AO.yld _ (Yld.pickF rfl rfl) rfl rfl rfl ?_
            refine AO.nil ?_
            refine AC.cond _ rfl (fun c89 => ?_) (fun c89 => ?_)
            · -- c89 True
              exfalso; simp [planL_len] at c89
            · -- c89 False
              refine AC.skip ?_
              refine AC.seq ?_
              refine AC.seq ?_
              refine AC.region ?_
              refine AO.yld _ (Yld.move rfl) rfl rfl rfl ?_
              refine AO.yld _ (Yld.len Try.underlying26 rfl rfl) rfl rfl rfl ?_
              refine AO.yld _ (Yld.int rfl rfl rfl) rfl rfl rfl ?_
              refine AO.nil ?_
              refine AC.cond _ rfl (fun c92 => ?_) (fun c92 => ?_)
              · -- c92 True
                have hl0 : xs.length = 0 := by have h := c92; simp at h; simp [h]
                have hlt1 : (latenessOf ms27 xs (1 + r8At more 20 60)).2 = 6 := by rw [hlat, if_pos hl0]
                have hll1 := latest_none hask hl0
                refine AC.seq ?_
                refine AC.region ?_
                refine AO.yld _ (Yld.move rfl) rfl rfl rfl ?_
                refine AO.yld _ (Yld.int rfl rfl rfl) rfl rfl rfl ?_
                refine AO.yld _ (Yld.move rfl) rfl rfl rfl ?_
                refine AO.splitAt 95 _ rfl (fun s95 => ?_) (fun s95 => ?_)
                · -- s95 True
                  refine AO.yldG _ (Yld.move rfl) rfl rfl rfl rfl rfl ?_
                  refine AO.yldG _ (Yld.int rfl rfl rfl) rfl rfl rfl rfl rfl ?_
                  refine AO.yld _ (Yld.pickT rfl rfl) rfl rfl rfl ?_
                  refine AO.yld _ (Yld.move rfl) rfl rfl rfl ?_
                  refine AO.splitAt 99 _ rfl (fun s99 => ?_) (fun s99 => ?_)
                  · -- s99 True
                    refine AO.yldG _ (Yld.move rfl) rfl rfl rfl rfl rfl ?_
                    refine AO.yldG _ (Yld.len Try.underlying32 rfl rfl) rfl rfl rfl rfl rfl ?_
                    refine AO.yldG _ (Yld.int rfl rfl rfl) rfl rfl rfl rfl rfl ?_
                    refine AO.yld _ (Yld.pickT rfl rfl) rfl rfl rfl ?_
                    refine AO.yld _ (Yld.assign rfl) rfl rfl rfl ?_
                    refine AO.nil ?_
                    refine Pure.ret Try.results3 (RVs.cons (RV.tmp rfl) RVs.nil) rfl ?_
                    first
                      | rfl
                      | (refine cb ?_; simp [hll1]; done)
                      | (refine cb ?_; have h9 := c162; rcases hd3 with h | h <;> simp_all; done)
                      | (refine cb ?_; rw [hlt4]; simp; omega)
                      | (simp_all; done)
                  · -- s99 False
                    exfalso; simp [hll1] at s99
                · -- s95 False
                  exfalso; simp [hlt1] at s95
              · -- c92 False
                have hl0 : xs.length ≠ 0 := by have h := c92; simp at h; simpa using h
                have hlt2 : latenessOf ms27 xs (1 + r8At more 20 60) = (lateTo ms27 xs (1 + r8At more 20 60) xs.length, 0) := by rw [hlat, if_neg hl0]
                have hll2 := latest_all hfit hask hl0
                refine AC.skip ?_
                refine AC.seq ?_
                refine AC.seq ?_
                refine AC.region ?_
                refine AO.yld _ (Yld.move rfl) rfl rfl rfl ?_
                refine AO.yld _ (Yld.int rfl rfl rfl) rfl rfl rfl ?_
                refine AO.yld _ (Yld.move rfl) rfl rfl rfl ?_
                refine AO.splitAt 106 _ rfl (fun s106 => ?_) (fun s106 => ?_)
                · -- s106 True
                  exfalso; simp [hlt2] at s106
                · -- s106 False
                  refine AO.yldG _ (Yld.move rfl) rfl rfl rfl rfl rfl ?_
                  refine AO.yldG _ (Yld.int rfl rfl rfl) rfl rfl rfl rfl rfl ?_
                  refine AO.yldG _ (Yld.move rfl) rfl rfl rfl rfl rfl ?_
                  refine AO.yldG _ (Yld.int rfl rfl rfl) rfl rfl rfl rfl rfl ?_
                  refine AO.yldG _ (Yld.bne Try.underlying4 rfl rfl) rfl rfl rfl rfl rfl ?_
                  refine AO.yld _ (Yld.pickF rfl rfl) rfl rfl rfl ?_
                  refine AO.nil ?_
                  refine AC.cond _ rfl (fun c112 => ?_) (fun c112 => ?_)
                  · -- c112 True
                    exfalso; have h9 := c112; rw [hlt2, hll2] at h9; rw [late_same] at h9; cases h9
                  · -- c112 False
                    refine AC.skip ?_
                    refine AC.seq ?_
                    refine AC.seq ?_
                    refine AC.region ?_
                    refine AO.yld _ (Yld.assign rfl) rfl rfl rfl ?_
                    refine AO.nil ?_
                    refine AC.block ?_
                    refine AC.loopC [(5, _), (6, _), (9, _), (10, _), (12, _), (14, _), (15, _)] [(0, _), (1, _), (2, _), (3, _)] (fun (k : Nat) => [(16, .p (.v (.int .i64 (k : Int))))]) (fun (k : Nat) => []) (fun (k : Nat) => k ≤ xs.length) (fun (k : Nat) => xs.length - k) 0 ⟨rfl, rfl, rfl, rfl, rfl, rfl, rfl, trivial⟩ ⟨rfl, rfl, rfl, rfl, trivial⟩ ⟨rfl, trivial⟩ trivial ?_ (fun k hJ => ?_)
                    · exact Nat.zero_le _
                    · -- round
                      refine AC.seq ?_
                      refine AC.seq ?_
                      refine AC.region ?_
                      refine AO.yld _ (Yld.move rfl) rfl rfl rfl ?_
                      refine AO.yld _ (Yld.move rfl) rfl rfl rfl ?_
                      refine AO.yld _ (Yld.len Try.underlying32 rfl rfl) rfl rfl rfl ?_
                      refine AO.yld _ (Yld.int rfl rfl rfl) rfl rfl rfl ?_
                      refine AO.nil ?_
                      refine AC.cond _ rfl (fun c116 => ?_) (fun c116 => ?_)
                      · -- c116 True
                        have hk : k < xs.length := by have h := c116; simpa [planL_len] using h
                        have hrowP := map_row (enc := encI) (planL_get (ms := ms27) (xs := xs) (b := (1 + r8At more 20 60)) hk)
                        refine AC.skip ?_
                        refine AC.seq ?_
                        refine AC.block ?_
                        refine AC.seq ?_
                        refine AC.draw (by kernel_rfl) (by kernel_rfl) ?_
                        refine AO.yld _ (Yld.move rfl) rfl rfl rfl ?_
                        refine AO.yld _ (Yld.int rfl rfl rfl) rfl rfl rfl ?_
                        refine AO.yld _ (Yld.move rfl) rfl rfl rfl ?_
                        refine AO.splitAt 121 _ rfl (fun s121 => ?_) (fun s121 => ?_)
                        · -- s121 True
                          have hin : inTime ms27 xs (1 + r8At more 20 60) = true := by have h9 := s121; rw [hll2] at h9; exact late_is h9
                          have hll3 : latestLoads ms27 xs (1 + r8At more 20 60) = (endV ms27 xs (1 + r8At more 20 60) xs.length, 0) := by rw [hll2, if_pos hin]
                          have hrowL : ((latestLoads ms27 xs (1 + r8At more 20 60)).1.map encI)[k]? = some (encI (endF ms27 xs (1 + r8At more 20 60) (xs.length - k))) := by rw [hll3]; exact map_row (endV_get _ _ hk)
                          have hge := end_ge hfit (by omega) hl0 hin (xs.length - k) (by omega)
                          rw [show xs.length - (xs.length - k) = k by omega] at hge
                          refine AO.yldG _ (Yld.move rfl) rfl rfl rfl rfl rfl ?_
                          refine AO.yldG _ (Yld.len Try.underlying32 rfl rfl) rfl rfl rfl rfl rfl ?_
                          refine AO.yldG _ (Yld.move rfl) rfl rfl rfl rfl rfl ?_
                          refine AO.yldG _ (Yld.len Try.underlying32 rfl rfl) rfl rfl rfl rfl rfl ?_
                          refine AO.yldG _ (Yld.int rfl rfl rfl) rfl rfl rfl rfl rfl ?_
                          refine AO.yldG _ (Yld.move rfl) rfl rfl rfl rfl rfl ?_
                          refine AO.splitAt 127 _ rfl (fun s127 => ?_) (fun s127 => ?_)
                          · -- s127 True
                            exfalso; simp [hll3, endV_len, planL_len] at s127
                          · -- s127 False
                            refine AO.yldG _ (Yld.move rfl) rfl rfl rfl rfl rfl ?_
                            refine AO.yldG _ (Yld.move rfl) rfl rfl rfl rfl rfl ?_
                            refine AO.yldG _ (Yld.indexVec Try.underlying32 Try.sizeOf2 rfl rfl rfl rfl (by simp only [List.length_map]; rw [hll3]; simpa [endV_len] using hk)) rfl rfl rfl rfl rfl ?_
                            refine AO.yldG _ (Yld.load Try.isAgg2 rfl (Eq.trans (behind_el rfl hrowL) rfl)) rfl rfl rfl rfl rfl ?_
                            refine AO.yldG _ (Yld.move rfl) rfl rfl rfl rfl rfl ?_
                            refine AO.yldG _ (Yld.move rfl) rfl rfl rfl rfl rfl ?_
                            refine AO.yldG _ (Yld.indexVec Try.underlying32 Try.sizeOf2 rfl rfl rfl rfl (by simpa [planL_len] using hk)) rfl rfl rfl rfl rfl ?_
                            refine AO.yldG _ (Yld.load Try.isAgg2 rfl (Eq.trans (behind_el rfl hrowP) rfl)) rfl rfl rfl rfl rfl ?_
                            refine AO.yldG _ (Yld.int rfl rfl rfl) rfl rfl rfl rfl rfl ?_
                            refine AO.yldG _ (Yld.pickF rfl rfl) rfl rfl rfl rfl rfl ?_
                            refine AO.yld _ (Yld.pickT rfl rfl) rfl rfl rfl ?_
                            refine AO.yld _ (Yld.move rfl) rfl rfl rfl ?_
                            refine AO.splitAt 139 _ rfl (fun s139 => ?_) (fun s139 => ?_)
                            · -- s139 True
                              exfalso; have h9 := s139; simp at h9; omega
                            · -- s139 False
                              refine AO.yldG _ (Yld.move rfl) rfl rfl rfl rfl rfl ?_
                              refine AO.yldG _ (Yld.int rfl rfl rfl) rfl rfl rfl rfl rfl ?_
                              refine AO.yldG _ (Yld.move rfl) rfl rfl rfl rfl rfl ?_
                              refine AO.splitAt 142 _ rfl (fun s142 => ?_) (fun s142 => ?_)
                              · -- s142 True
                                have hk0 : 0 < k := by simpa using s142
                                have hrowQ := map_row (enc := encI) (planL_get (ms := ms27) (xs := xs) (b := (1 + r8At more 20 60)) (k := k - 1) (n := xs.length) (by omega))
                                have hstep := plan_step (ms := ms27) (xs := xs) (b := (1 + r8At more 20 60)) hfit (by omega) (k := k - 1) (by omega)
                                rw [show k - 1 + 1 = k by omega] at hstep
                                refine AO.yldG _ (Yld.move rfl) rfl rfl rfl rfl rfl ?_
                                refine AO.yldG _ (Yld.move rfl) rfl rfl rfl rfl rfl ?_
                                refine AO.yldG _ (Yld.indexVec Try.underlying32 Try.sizeOf2 rfl rfl rfl rfl (by simpa [planL_len] using hk)) rfl rfl rfl rfl rfl ?_
                                refine AO.yldG _ (Yld.load Try.isAgg2 rfl (Eq.trans (behind_el rfl hrowP) rfl)) rfl rfl rfl rfl rfl ?_
                                refine AO.yldG _ (Yld.move rfl) rfl rfl rfl rfl rfl ?_
                                refine AO.yldG _ (Yld.move rfl) rfl rfl rfl rfl rfl ?_
                                refine AO.yldG _ (Yld.sub rfl rfl (by omega) (by omega)) rfl rfl rfl rfl rfl ?_
                                refine AO.yldG _ (Yld.indexVec Try.underlying32 Try.sizeOf2 rfl rfl rfl (show _ = ((k - 1 : Nat) : Int) by omega) (by simp [planL_len]; omega)) rfl rfl rfl rfl rfl ?_
                                refine AO.yldG _ (Yld.load Try.isAgg2 rfl (Eq.trans (behind_el rfl hrowQ) rfl)) rfl rfl rfl rfl rfl ?_
                                refine AO.yldG _ (Yld.int rfl rfl rfl) rfl rfl rfl rfl rfl ?_
                                refine AO.yldG _ (Yld.pickT rfl rfl) rfl rfl rfl rfl rfl ?_
                                refine AO.yld _ (Yld.pickF rfl rfl) rfl rfl rfl ?_
                                refine AO.nil ?_
                                refine AC.cond _ rfl (fun c154 => ?_) (fun c154 => ?_)
                                · -- c154 True
                                  exfalso; have h9 := c154; simp at h9; omega
                                · -- c154 False
                                  refine AC.skip ?_
                                  refine AC.mark ?_
                                  refine AC.region ?_
                                  refine AO.yld _ (Yld.move rfl) rfl rfl rfl ?_
                                  refine AO.yld _ (Yld.add rfl rfl (by omega) (by omega)) rfl rfl rfl ?_
                                  refine AO.yld _ (Yld.assign rfl) rfl rfl rfl ?_
                                  refine AO.nil ?_
                                  refine AC.back ⟨k + 1, ?_, ?_, ⟨?_, trivial⟩, trivial, ⟨rfl, rfl, rfl, rfl, rfl, rfl, rfl, trivial⟩, ⟨rfl, rfl, rfl, rfl, trivial⟩⟩
                                  · exact hk
                                  · omega
                                  · rfl
                              · -- s142 False
                                refine AO.skipT rfl rfl rfl rfl rfl ?_
                                refine AO.skipT rfl rfl rfl rfl rfl ?_
                                refine AO.skipT rfl rfl rfl rfl rfl ?_
                                refine AO.skipT rfl rfl rfl rfl rfl ?_
                                refine AO.skipT rfl rfl rfl rfl rfl ?_
                                refine AO.skipT rfl rfl rfl rfl rfl ?_
                                refine AO.skipT rfl rfl rfl rfl rfl ?_
                                refine AO.skipT rfl rfl rfl rfl rfl ?_
                                refine AO.skipT rfl rfl rfl rfl rfl ?_
                                refine AO.skipT rfl rfl rfl rfl rfl ?_
                                refine AO.yldG _ (Yld.pickF rfl rfl) rfl rfl rfl rfl rfl ?_
                                refine AO.yld _ (Yld.pickF rfl rfl) rfl rfl rfl ?_
                                refine AO.nil ?_
                                refine AC.condF rfl ?_
                                refine AC.skip ?_
                                refine AC.mark ?_
                                refine AC.region ?_
                                refine AO.yld _ (Yld.move rfl) rfl rfl rfl ?_
                                refine AO.yld _ (Yld.add rfl rfl (by omega) (by omega)) rfl rfl rfl ?_
                                refine AO.yld _ (Yld.assign rfl) rfl rfl rfl ?_
                                refine AO.nil ?_
                                refine AC.back ⟨k + 1, ?_, ?_, ⟨?_, trivial⟩, trivial, ⟨rfl, rfl, rfl, rfl, rfl, rfl, rfl, trivial⟩, ⟨rfl, rfl, rfl, rfl, trivial⟩⟩
                                · exact hk
                                · omega
                                · rfl
                        · -- s121 False
                          refine AO.skipT rfl rfl rfl rfl rfl ?_
                          refine AO.skipT rfl rfl rfl rfl rfl ?_
                          refine AO.skipT rfl rfl rfl rfl rfl ?_
                          refine AO.skipT rfl rfl rfl rfl rfl ?_
                          refine AO.skipT rfl rfl rfl rfl rfl ?_
                          refine AO.skipT rfl rfl rfl rfl rfl ?_
                          refine AO.skipU rfl rfl rfl rfl rfl ?_
                          refine AO.skipU rfl rfl rfl rfl rfl ?_
                          refine AO.skipU rfl rfl rfl rfl rfl ?_
                          refine AO.skipU rfl rfl rfl rfl rfl ?_
                          refine AO.skipU rfl rfl rfl rfl rfl ?_
                          refine AO.skipU rfl rfl rfl rfl rfl ?_
                          refine AO.skipU rfl rfl rfl rfl rfl ?_
                          refine AO.skipU rfl rfl rfl rfl rfl ?_
                          refine AO.skipU rfl rfl rfl rfl rfl ?_
                          refine AO.skipT rfl rfl rfl rfl rfl ?_
                          refine AO.yld _ (Yld.pickF rfl rfl) rfl rfl rfl ?_
                          refine AO.yld _ (Yld.move rfl) rfl rfl rfl ?_
                          refine AO.yldG _ (Yld.move rfl) rfl rfl rfl rfl rfl ?_
                          refine AO.yldG _ (Yld.int rfl rfl rfl) rfl rfl rfl rfl rfl ?_
                          refine AO.yldG _ (Yld.move rfl) rfl rfl rfl rfl rfl ?_
                          refine AO.splitAt 142 _ rfl (fun s142 => ?_) (fun s142 => ?_)
                          · -- s142 True
                            have hk0 : 0 < k := by simpa using s142
                            have hrowQ := map_row (enc := encI) (planL_get (ms := ms27) (xs := xs) (b := (1 + r8At more 20 60)) (k := k - 1) (n := xs.length) (by omega))
                            have hstep := plan_step (ms := ms27) (xs := xs) (b := (1 + r8At more 20 60)) hfit (by omega) (k := k - 1) (by omega)
                            rw [show k - 1 + 1 = k by omega] at hstep
                            refine AO.yldG _ (Yld.move rfl) rfl rfl rfl rfl rfl ?_
                            refine AO.yldG _ (Yld.move rfl) rfl rfl rfl rfl rfl ?_
                            refine AO.yldG _ (Yld.indexVec Try.underlying32 Try.sizeOf2 rfl rfl rfl rfl (by simpa [planL_len] using hk)) rfl rfl rfl rfl rfl ?_
                            refine AO.yldG _ (Yld.load Try.isAgg2 rfl (Eq.trans (behind_el rfl hrowP) rfl)) rfl rfl rfl rfl rfl ?_
                            refine AO.yldG _ (Yld.move rfl) rfl rfl rfl rfl rfl ?_
                            refine AO.yldG _ (Yld.move rfl) rfl rfl rfl rfl rfl ?_
                            refine AO.yldG _ (Yld.sub rfl rfl (by omega) (by omega)) rfl rfl rfl rfl rfl ?_
                            refine AO.yldG _ (Yld.indexVec Try.underlying32 Try.sizeOf2 rfl rfl rfl (show _ = ((k - 1 : Nat) : Int) by omega) (by simp [planL_len]; omega)) rfl rfl rfl rfl rfl ?_
                            refine AO.yldG _ (Yld.load Try.isAgg2 rfl (Eq.trans (behind_el rfl hrowQ) rfl)) rfl rfl rfl rfl rfl ?_
                            refine AO.yldG _ (Yld.int rfl rfl rfl) rfl rfl rfl rfl rfl ?_
                            refine AO.yldG _ (Yld.pickT rfl rfl) rfl rfl rfl rfl rfl ?_
                            refine AO.yld _ (Yld.pickF rfl rfl) rfl rfl rfl ?_
                            refine AO.nil ?_
                            refine AC.cond _ rfl (fun c154 => ?_) (fun c154 => ?_)
                            · -- c154 True
                              exfalso; have h9 := c154; simp at h9; omega
                            · -- c154 False
                              refine AC.skip ?_
                              refine AC.mark ?_
                              refine AC.region ?_
                              refine AO.yld _ (Yld.move rfl) rfl rfl rfl ?_
                              refine AO.yld _ (Yld.add rfl rfl (by omega) (by omega)) rfl rfl rfl ?_
                              refine AO.yld _ (Yld.assign rfl) rfl rfl rfl ?_
                              refine AO.nil ?_
                              refine AC.back ⟨k + 1, ?_, ?_, ⟨?_, trivial⟩, trivial, ⟨rfl, rfl, rfl, rfl, rfl, rfl, rfl, trivial⟩, ⟨rfl, rfl, rfl, rfl, trivial⟩⟩
                              · exact hk
                              · omega
                              · rfl
                          · -- s142 False
                            refine AO.skipT rfl rfl rfl rfl rfl ?_
                            refine AO.skipT rfl rfl rfl rfl rfl ?_
                            refine AO.skipT rfl rfl rfl rfl rfl ?_
                            refine AO.skipT rfl rfl rfl rfl rfl ?_
                            refine AO.skipT rfl rfl rfl rfl rfl ?_
                            refine AO.skipT rfl rfl rfl rfl rfl ?_
                            refine AO.skipT rfl rfl rfl rfl rfl ?_
                            refine AO.skipT rfl rfl rfl rfl rfl ?_
                            refine AO.skipT rfl rfl rfl rfl rfl ?_
                            refine AO.skipT rfl rfl rfl rfl rfl ?_
                            refine AO.yldG _ (Yld.pickF rfl rfl) rfl rfl rfl rfl rfl ?_
                            refine AO.yld _ (Yld.pickF rfl rfl) rfl rfl rfl ?_
                            refine AO.nil ?_
                            refine AC.condF rfl ?_
                            refine AC.skip ?_
                            refine AC.mark ?_
                            refine AC.region ?_
                            refine AO.yld _ (Yld.move rfl) rfl rfl rfl ?_
                            refine AO.yld _ (Yld.add rfl rfl (by omega) (by omega)) rfl rfl rfl ?_
                            refine AO.yld _ (Yld.assign rfl) rfl rfl rfl ?_
                            refine AO.nil ?_
                            refine AC.back ⟨k + 1, ?_, ?_, ⟨?_, trivial⟩, trivial, ⟨rfl, rfl, rfl, rfl, rfl, rfl, rfl, trivial⟩, ⟨rfl, rfl, rfl, rfl, trivial⟩⟩
                            · exact hk
                            · omega
                            · rfl
                      · -- c116 False
                        obtain rfl : k = xs.length := by have h := c116; simp [planL_len] at h; omega
                        refine AC.exit rfl ?_
                        refine AC.seq ?_
                        refine AC.region ?_
                        refine AO.yld _ (Yld.move rfl) rfl rfl rfl ?_
                        refine AO.yld _ (Yld.move rfl) rfl rfl rfl ?_
                        refine AO.yld _ (Yld.call rfl rfl Try.call11 rfl rfl rfl (impl_LeastBandwidth_c (by first | assumption | omega) (by assumption) (by first | assumption | omega) (by assumption)) rfl) rfl rfl rfl ?_
                        refine AO.yld _ (Yld.move rfl) rfl rfl rfl ?_
                        refine AO.yld _ (Yld.extract rfl rfl rfl) rfl rfl rfl ?_
                        refine AO.yld _ (Yld.extract rfl rfl rfl) rfl rfl rfl ?_
                        refine AO.yld _ (Yld.assign rfl) rfl rfl rfl ?_
                        refine AO.yld _ (Yld.assign rfl) rfl rfl rfl ?_
                        refine AO.nil ?_
                        refine AC.seq ?_
                        refine AC.seq ?_
                        refine AC.region ?_
                        refine AO.yld _ (Yld.move rfl) rfl rfl rfl ?_
                        refine AO.yld _ (Yld.int rfl rfl rfl) rfl rfl rfl ?_
                        refine AO.nil ?_
                        refine AC.cond _ rfl (fun c162 => ?_) (fun c162 => ?_)
                        · -- c162 True
                          have hd3 := least_code hfit
                          refine AC.seq ?_
                          refine AC.region ?_
                          refine AO.yld _ (Yld.move rfl) rfl rfl rfl ?_
                          refine AO.yld _ (Yld.int rfl rfl rfl) rfl rfl rfl ?_
                          refine AO.yld _ (Yld.assign rfl) rfl rfl rfl ?_
                          refine AO.nil ?_
                          refine Pure.ret Try.results3 (RVs.cons (RV.tmp rfl) RVs.nil) rfl ?_
                          first
                            | rfl
                            | (refine cb ?_; simp [hll1]; done)
                            | (refine cb ?_; have h9 := c162; rcases hd3 with h | h <;> simp_all; done)
                            | (refine cb ?_; rw [hlt4]; simp; omega)
                            | (simp_all; done)
                        · -- c162 False
                          have hd0 : (leastBandwidth ms27 xs).2 = 0 := by simpa using c162
                          obtain ⟨u1, u2, u3, u4, u5⟩ := least_up hfit (w := (1 + r8At more 20 60)) (by omega) hd0
                          have hlt3 : latenessOf ms27 xs (leastBandwidth ms27 xs).1 = (lateTo ms27 xs (leastBandwidth ms27 xs).1 xs.length, 0) := by rw [late_zero (ask_zero hfit u2 u3), if_neg hl0]
                          refine AC.skip ?_
                          refine AC.seq ?_
                          refine AC.region ?_
                          refine AO.yld _ (Yld.move rfl) rfl rfl rfl ?_
                          refine AO.yld _ (Yld.move rfl) rfl rfl rfl ?_
                          refine AO.yld _ (Yld.move rfl) rfl rfl rfl ?_
                          refine AO.yld _ (Yld.call rfl rfl Try.call8 rfl rfl rfl (impl_LatenessOf_c (by first | assumption | omega) (by assumption) (by first | assumption | omega) (by assumption)) rfl) rfl rfl rfl ?_
                          refine AO.yld _ (Yld.move rfl) rfl rfl rfl ?_
                          refine AO.yld _ (Yld.extract rfl rfl rfl) rfl rfl rfl ?_
                          refine AO.yld _ (Yld.extract rfl rfl rfl) rfl rfl rfl ?_
                          refine AO.yld _ (Yld.assign rfl) rfl rfl rfl ?_
                          refine AO.yld _ (Yld.assign rfl) rfl rfl rfl ?_
                          refine AO.nil ?_
                          refine AC.seq ?_
                          refine AC.seq ?_
                          refine AC.region ?_
                          refine AO.yld _ (Yld.move rfl) rfl rfl rfl ?_
                          refine AO.yld _ (Yld.int rfl rfl rfl) rfl rfl rfl ?_
                          refine AO.yld _ (Yld.move rfl) rfl rfl rfl ?_
                          refine AO.splitAt 174 _ rfl (fun s174 => ?_) (fun s174 => ?_)
                          · -- s174 True
                            exfalso; simp [hlt3] at s174
                          · -- s174 False
                            refine AO.yldG _ (Yld.move rfl) rfl rfl rfl rfl rfl ?_
                            refine AO.yldG _ (Yld.int rfl rfl rfl) rfl rfl rfl rfl rfl ?_
                            refine AO.yld _ (Yld.pickF rfl rfl) rfl rfl rfl ?_
                            refine AO.yld _ (Yld.move rfl) rfl rfl rfl ?_
                            refine AO.splitAt 178 _ rfl (fun s178 => ?_) (fun s178 => ?_)
                            · -- s178 True
                              exfalso; have h9 := s178; simp [hlt3] at h9; omega
                            · -- s178 False
                              refine AO.yldG _ (Yld.move rfl) rfl rfl rfl rfl rfl ?_
                              refine AO.yldG _ (Yld.int rfl rfl rfl) rfl rfl rfl rfl rfl ?_
                              refine AO.yldG _ (Yld.move rfl) rfl rfl rfl rfl rfl ?_
                              refine AO.yldG _ (Yld.move rfl) rfl rfl rfl rfl rfl ?_
                              refine AO.yldG _ (Yld.int rfl rfl rfl) rfl rfl rfl rfl rfl ?_
                              refine AO.yldG _ (Yld.bne Try.underlying4 rfl rfl) rfl rfl rfl rfl rfl ?_
                              refine AO.yld _ (Yld.pickF rfl rfl) rfl rfl rfl ?_
                              refine AO.nil ?_
                              refine AC.cond _ rfl (fun c185 => ?_) (fun c185 => ?_)
                              · -- c185 True
                                exfalso; have h9 := c185; rw [hlt2] at h9; simp [u1] at h9
                              · -- c185 False
                                refine AC.skip ?_
                                refine AC.seq ?_
                                refine AC.seq ?_
                                refine AC.region ?_
                                refine AO.yld _ (Yld.move rfl) rfl rfl rfl ?_
                                refine AO.yld _ (Yld.int rfl rfl rfl) rfl rfl rfl ?_
                                refine AO.nil ?_
                                refine AC.cond _ rfl (fun c187 => ?_) (fun c187 => ?_)
                                · -- c187 True
                                  refine AC.seq ?_
                                  refine AC.region ?_
                                  refine AO.yld _ (Yld.assign rfl) rfl rfl rfl ?_
                                  refine AO.nil ?_
                                  refine Pure.ret Try.results3 (RVs.cons (RV.tmp rfl) RVs.nil) rfl ?_
                                  first
                                    | rfl
                                    | (refine cb ?_; simp [hll1]; done)
                                    | (refine cb ?_; have h9 := c162; rcases hd3 with h | h <;> simp_all; done)
                                    | (refine cb ?_; rw [hlt4]; simp; omega)
                                    | (simp_all; done)
                                · -- c187 False
                                  have hne1 : (leastBandwidth ms27 xs).1 ≠ 1 := by simpa using c187
                                  have u6 := u5 hne1
                                  have hlt4 : latenessOf ms27 xs ((leastBandwidth ms27 xs).1 - 1) = (lateTo ms27 xs ((leastBandwidth ms27 xs).1 - 1) xs.length, 0) := by rw [late_zero (ask_zero hfit (by omega) (by omega)), if_neg hl0]
                                  refine AC.skip ?_
                                  refine AC.seq ?_
                                  refine AC.region ?_
                                  refine AO.yld _ (Yld.move rfl) rfl rfl rfl ?_
                                  refine AO.yld _ (Yld.move rfl) rfl rfl rfl ?_
                                  refine AO.yld _ (Yld.move rfl) rfl rfl rfl ?_
                                  refine AO.yld _ (Yld.sub rfl rfl (by omega) (by omega)) rfl rfl rfl ?_
                                  refine AO.yld _ (Yld.call rfl rfl Try.call8 rfl rfl rfl (impl_LatenessOf_c (by first | assumption | omega) (by assumption) (by first | assumption | omega) (by assumption)) rfl) rfl rfl rfl ?_
                                  refine AO.yld _ (Yld.move rfl) rfl rfl rfl ?_
                                  refine AO.yld _ (Yld.extract rfl rfl rfl) rfl rfl rfl ?_
                                  refine AO.yld _ (Yld.extract rfl rfl rfl) rfl rfl rfl ?_
                                  refine AO.yld _ (Yld.assign rfl) rfl rfl rfl ?_
                                  refine AO.yld _ (Yld.assign rfl) rfl rfl rfl ?_
                                  refine AO.nil ?_
                                  refine AC.seq ?_
                                  refine AC.region ?_
                                  refine AO.yld _ (Yld.move rfl) rfl rfl rfl ?_
                                  refine AO.yld _ (Yld.int rfl rfl rfl) rfl rfl rfl ?_
                                  refine AO.yld _ (Yld.move rfl) rfl rfl rfl ?_
                                  refine AO.splitAt 198 _ rfl (fun s198 => ?_) (fun s198 => ?_)
                                  · -- s198 True
                                    refine AO.yldG _ (Yld.move rfl) rfl rfl rfl rfl rfl ?_
                                    refine AO.yldG _ (Yld.int rfl rfl rfl) rfl rfl rfl rfl rfl ?_
                                    refine AO.yld _ (Yld.pickT rfl rfl) rfl rfl rfl ?_
                                    refine AO.yld _ (Yld.assign rfl) rfl rfl rfl ?_
                                    refine AO.nil ?_
                                    refine Pure.ret Try.results3 (RVs.cons (RV.tmp rfl) RVs.nil) rfl ?_
                                    first
                                      | rfl
                                      | (refine cb ?_; simp [hll1]; done)
                                      | (refine cb ?_; have h9 := c162; rcases hd3 with h | h <;> simp_all; done)
                                      | (refine cb ?_; rw [hlt4]; simp; omega)
                                      | (simp_all; done)
                                  · -- s198 False
                                    exfalso; simp [hlt4] at s198

end Go.Proofs.Ytbbechcbdeknnaa
