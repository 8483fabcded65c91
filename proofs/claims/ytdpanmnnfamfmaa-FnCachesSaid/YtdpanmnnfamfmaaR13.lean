/- Contracts of functions of the program, each by a walk of its text in the calculus V. -/
import Derived.Test.YtdpanmnnfamfmaaXA
import Derived.Test.YtdpanmnnfamfmaaD50
import Derived.Test.YtdpanmnnfamfmaaV32
import Derived.Test.YtdpanmnnfamfmaaV22
import Derived.Test.YtdpanmnnfamfmaaSh
set_option linter.all false
set_option linter.unusedSimpArgs false
set_option linter.unnecessarySimpa false
set_option linter.unusedVariables false
namespace Go.Proofs.Ytdpanmnnfamfmaa
open Go Go.V
theorem ty9 : TyIs Try.prog 9 (.string ⟨#[]⟩) 1 16 := by unfold TyIs; kernel_rfl

theorem indexStr_c {xs : List (List UInt8)} {n : List UInt8} (hn : xs.length ≤ 1048576) :
    Pure Try.prog 85 [.sl 1 (xs.map Go.V.encS), .v (str n)] (.v (.int .i64 (nxt xs n))) := by
  refine Pure.intro Try.func85 rfl Try.ntmps85 rfl rfl (fun w => ?_)
  refine AC.seq ?_
  refine AC.region ?_
  refine AO.yld _ (Yld.assign rfl) rfl rfl rfl ?_
  refine AO.nil ?_
  refine AC.seq ?_
  refine AC.seq ?_
  refine AC.region ?_
  refine AO.yld _ (Yld.move rfl) rfl rfl rfl ?_
  refine AO.yld _ (Yld.len Try.underlying59 rfl rfl) rfl rfl rfl ?_
  refine AO.yld _ (Yld.move rfl) rfl rfl rfl ?_
  refine AO.nil ?_
  refine AC.block ?_
  refine AC.loopC [(0, _), (1, _), (7, _)] [] (fun (k : Nat) => [(8, .p (.v (.int .i64 (k : Int))))]) (fun (k : Nat) => []) (fun (k : Nat) => k ≤ xs.length ∧ anyTo (fun x => decide (n = x)) xs k = false) (fun (k : Nat) => xs.length - k) 0 ⟨rfl, rfl, rfl, trivial⟩ trivial ⟨rfl, trivial⟩ trivial ?_ (fun k hJ => ?_)
  · exact ⟨Nat.zero_le _, rfl⟩
  · -- round
    refine AC.seq ?_
    refine AC.region ?_
    refine AO.yld _ (Yld.int rfl rfl rfl) rfl rfl rfl ?_
    refine AO.nil ?_
    refine AC.seq ?_
    refine AC.cond _ rfl (fun c9 => ?_) (fun c9 => ?_)
    · -- c9 True
      have hk := lt_of_decM c9
      obtain ⟨x, hx⟩ := get_some hk
      have hrow := map_row (enc := Go.V.encS) hx
      refine AC.skip ?_
      refine AC.seq ?_
      refine AC.block ?_
      refine AC.seq ?_
      refine AC.region ?_
      refine AO.yld _ (Yld.move rfl) rfl rfl rfl ?_
      refine AO.yld _ (Yld.assign rfl) rfl rfl rfl ?_
      refine AO.nil ?_
      refine AC.seq ?_
      refine AC.region ?_
      refine AO.yld _ (Yld.move rfl) rfl rfl rfl ?_
      refine AO.yld _ (Yld.move rfl) rfl rfl rfl ?_
      refine AO.yld _ (Yld.move rfl) rfl rfl rfl ?_
      refine AO.yld _ (Yld.indexSl Try.underlying59 Try.sizeOf9 rfl rfl hrow rfl) rfl rfl rfl ?_
      refine AO.yld _ (Yld.load Try.isAgg9 rfl rfl) rfl rfl rfl ?_
      refine AO.yld _ (Yld.cmpStr rfl rfl rfl) rfl rfl rfl ?_
      refine AO.nil ?_
      refine AC.cond _ rfl (fun c16 => ?_) (fun c16 => ?_)
      · -- c16 True
        refine AC.seq ?_
        refine AC.region ?_
        refine AO.yld _ (Yld.move rfl) rfl rfl rfl ?_
        refine AO.yld _ (Yld.assign rfl) rfl rfl rfl ?_
        refine AO.nil ?_
        refine Pure.ret Try.results85 (RVs.cons (RV.tmp rfl) RVs.nil) rfl ?_
        first
          | exact ci (idx_hit hJ.2 hx (by simpa using c16))
          | exact ci (idx_miss hJ.2)
          | exact ci (idx_hit hJ.2 hx (by simpa using c16)).symm
          | exact ci (idx_miss hJ.2).symm
      · -- c16 False
        refine AC.skip ?_
        refine AC.mark ?_
        refine AC.region ?_
        refine AO.yld _ (Yld.add rfl rfl (by omega) (by omega)) rfl rfl rfl ?_
        refine AO.yld _ (Yld.move rfl) rfl rfl rfl ?_
        refine AO.nil ?_
        refine AC.back ⟨k + 1, ?_, ?_, ⟨?_, trivial⟩, trivial, ⟨rfl, rfl, rfl, trivial⟩, trivial⟩
        · exact ⟨hk, by rw [anyTo_succ hx, hJ.2]; simpa using c16⟩
        · omega
        · rfl
    · -- c9 False
      obtain rfl : k = xs.length := by have := ge_of_decM c9; omega
      refine AC.exit rfl ?_
      refine AC.seq ?_
      refine AC.region ?_
      refine AO.yld _ (Yld.assign rfl) rfl rfl rfl ?_
      refine AO.nil ?_
      refine Pure.ret Try.results85 (RVs.cons (RV.tmp rfl) RVs.nil) rfl ?_
      first
        | exact ci (idx_hit hJ.2 hx (by simpa using c16))
        | exact ci (idx_miss hJ.2)
        | exact ci (idx_hit hJ.2 hx (by simpa using c16)).symm
        | exact ci (idx_miss hJ.2).symm

theorem impl_farthest_c {c rest : List (List UInt8)} (hn : c.length ≤ 1048576) (hm : rest.length ≤ 1048576) :
    Pure Try.prog 87 [.sl 1 (c.map Go.V.encS), .sl 1 (rest.map Go.V.encS)] (.v (.int .i64 (farthest c rest))) := by
  have hM : (c.map Go.V.encS).length = c.length := List.length_map ..
  refine Pure.intro Try.func87 rfl Try.ntmps87 rfl rfl (fun w => ?_)
  refine AC.seq ?_
  refine AC.region ?_
  refine AO.yld _ (Yld.assign rfl) rfl rfl rfl ?_
  refine AO.nil ?_
  refine AC.seq ?_
  refine AC.region ?_
  refine AO.yld _ (Yld.assign rfl) rfl rfl rfl ?_
  refine AO.yld _ (Yld.assign rfl) rfl rfl rfl ?_
  refine AO.nil ?_
  refine AC.seq ?_
  refine AC.seq ?_
  refine AC.region ?_
  refine AO.yld _ (Yld.move rfl) rfl rfl rfl ?_
  refine AO.yld _ (Yld.len Try.underlying59 rfl rfl) rfl rfl rfl ?_
  refine AO.yld _ (Yld.move rfl) rfl rfl rfl ?_
  refine AO.nil ?_
  refine AC.block ?_
  refine AC.loopC [(1, _), (10, _), (11, _)] [] (fun (k : Nat) => [(12, .p (.v (.int .i64 (k : Int)))), (5, .p (.v (.int .i64 (farTo c rest k).1))), (6, .p (.v (.int .i64 (farTo c rest k).2)))]) (fun (k : Nat) => []) (fun (k : Nat) => k ≤ c.length ∧ anyTo (lost rest) c k = false) (fun (k : Nat) => c.length - k) 0 ⟨rfl, rfl, rfl, trivial⟩ trivial ⟨rfl, rfl, rfl, trivial⟩ trivial ?_ (fun k hJ => ?_)
  · exact ⟨Nat.zero_le _, rfl⟩
  · -- round
    refine AC.seq ?_
    refine AC.region ?_
    refine AO.yld _ (Yld.int rfl rfl rfl) rfl rfl rfl ?_
    refine AO.nil ?_
    refine AC.seq ?_
    refine AC.cond _ rfl (fun c13 => ?_) (fun c13 => ?_)
    · -- c13 True
      have hk : k < c.length := by have h := c13; rw [hM] at h; simpa using h
      obtain ⟨x, hx⟩ := get_some hk
      have hrow := map_row (enc := Go.V.encS) hx
      refine AC.skip ?_
      refine AC.seq ?_
      refine AC.block ?_
      refine AC.seq ?_
      refine AC.region ?_
      refine AO.yld _ (Yld.move rfl) rfl rfl rfl ?_
      refine AO.yld _ (Yld.indexSl Try.underlying59 Try.sizeOf9 rfl rfl hrow rfl) rfl rfl rfl ?_
      refine AO.yld _ (Yld.load Try.isAgg9 rfl rfl) rfl rfl rfl ?_
      refine AO.yld _ (Yld.assign rfl) rfl rfl rfl ?_
      refine AO.yld _ (Yld.assign rfl) rfl rfl rfl ?_
      refine AO.nil ?_
      refine AC.seq ?_
      refine AC.region ?_
      refine AO.yld _ (Yld.move rfl) rfl rfl rfl ?_
      refine AO.yld _ (Yld.move rfl) rfl rfl rfl ?_
      refine AO.yld _ (Yld.call rfl rfl Try.call85 rfl rfl rfl (indexStr_c (by first | assumption | omega)) rfl) rfl rfl rfl ?_
      refine AO.yld _ (Yld.assign rfl) rfl rfl rfl ?_
      refine AO.nil ?_
      refine AC.seq ?_
      refine AC.seq ?_
      refine AC.region ?_
      refine AO.yld _ (Yld.move rfl) rfl rfl rfl ?_
      refine AO.yld _ (Yld.int rfl rfl rfl) rfl rfl rfl ?_
      refine AO.nil ?_
      refine AC.cond _ rfl (fun c21 => ?_) (fun c21 => ?_)
      · -- c21 True
        refine AC.seq ?_
        refine AC.region ?_
        refine AO.yld _ (Yld.move rfl) rfl rfl rfl ?_
        refine AO.yld _ (Yld.assign rfl) rfl rfl rfl ?_
        refine AO.nil ?_
        refine Pure.ret Try.results87 (RVs.cons (RV.tmp rfl) RVs.nil) rfl ?_
        first
          | (refine ci ?_; unfold farthest; rw [if_pos (any_hit hx (by unfold lost; simpa using c21)), idx_hit hJ.2 hx (by unfold lost; simpa using c21)])
          | (refine ci ?_; unfold farthest; rw [if_neg (by rw [hany]; decide)])
      · -- c21 False
        refine AC.skip ?_
        refine AC.seq ?_
        refine AC.region ?_
        refine AO.yld _ (Yld.move rfl) rfl rfl rfl ?_
        refine AO.yld _ (Yld.move rfl) rfl rfl rfl ?_
        refine AO.yld _ (Yld.int rfl rfl rfl) rfl rfl rfl ?_
        refine AO.nil ?_
        refine AC.cond _ rfl (fun c25 => ?_) (fun c25 => ?_)
        · -- c25 True
          refine AC.region ?_
          refine AO.yld _ (Yld.move rfl) rfl rfl rfl ?_
          refine AO.yld _ (Yld.move rfl) rfl rfl rfl ?_
          refine AO.yld _ (Yld.assign rfl) rfl rfl rfl ?_
          refine AO.yld _ (Yld.assign rfl) rfl rfl rfl ?_
          refine AO.nil ?_
          refine AC.mark ?_
          refine AC.region ?_
          refine AO.yld _ (Yld.add rfl rfl (by omega) (by omega)) rfl rfl rfl ?_
          refine AO.yld _ (Yld.move rfl) rfl rfl rfl ?_
          refine AO.nil ?_
          refine AC.back ⟨k + 1, ?_, ?_, ⟨?_, ?_, ?_, trivial⟩, trivial, ⟨rfl, rfl, rfl, trivial⟩, trivial⟩
          · exact ⟨hk, by rw [anyTo_succ hx, hJ.2]; unfold lost; simpa using c21⟩
          · omega
          · rfl
          · show some (AV.p (PV.v (Value.int IntKind.i64 _))) = _; first | rw [farTo_T hx (by simpa using c25)] | rw [farTo_F hx (by simpa using c25)]
          · show some (AV.p (PV.v (Value.int IntKind.i64 _))) = _; first | rw [farTo_T hx (by simpa using c25)] | rw [farTo_F hx (by simpa using c25)]
        · -- c25 False
          refine AC.skip ?_
          refine AC.mark ?_
          refine AC.region ?_
          refine AO.yld _ (Yld.add rfl rfl (by omega) (by omega)) rfl rfl rfl ?_
          refine AO.yld _ (Yld.move rfl) rfl rfl rfl ?_
          refine AO.nil ?_
          refine AC.back ⟨k + 1, ?_, ?_, ⟨?_, ?_, ?_, trivial⟩, trivial, ⟨rfl, rfl, rfl, trivial⟩, trivial⟩
          · exact ⟨hk, by rw [anyTo_succ hx, hJ.2]; unfold lost; simpa using c21⟩
          · omega
          · rfl
          · show some (AV.p (PV.v (Value.int IntKind.i64 _))) = _; first | rw [farTo_T hx (by simpa using c25)] | rw [farTo_F hx (by simpa using c25)]
          · show some (AV.p (PV.v (Value.int IntKind.i64 _))) = _; first | rw [farTo_T hx (by simpa using c25)] | rw [farTo_F hx (by simpa using c25)]
    · -- c13 False
      obtain rfl : k = c.length := by have h := c13; rw [hM] at h; simp at h; omega
      have hany := hJ.2
      rw [anyTo_all] at hany
      refine AC.exit rfl ?_
      refine AC.seq ?_
      refine AC.region ?_
      refine AO.yld _ (Yld.move rfl) rfl rfl rfl ?_
      refine AO.yld _ (Yld.assign rfl) rfl rfl rfl ?_
      refine AO.nil ?_
      refine Pure.ret Try.results87 (RVs.cons (RV.tmp rfl) RVs.nil) rfl ?_
      first
        | (refine ci ?_; unfold farthest; rw [if_pos (any_hit hx (by unfold lost; simpa using c21)), idx_hit hJ.2 hx (by unfold lost; simpa using c21)])
        | (refine ci ?_; unfold farthest; rw [if_neg (by rw [hany]; decide)])

theorem delS_c {zs : List (List UInt8)} {i : Nat} {x y : Int} (hx : x = (i : Int)) (hy : y = x + 1) (hi : i < zs.length) :
    FnE (α := Unit) Try.prog 86 [.h 0, .p (.v (.int .i64 x)), .p (.v (.int .i64 y))] [(0, .vec 9 1 (zs.map Go.V.encS))] [] (fun _ => True) (fun _ => .h 0) (fun _ => [(0, .vec 9 1 ((zs.eraseIdx i).map Go.V.encS))]) := by
  rw [← map_erase]
  exact del_fnI (del_str Try.slices_Delete_string_cells) hx hy (by rw [List.length_map]; exact hi) (fun S w xs h => str_cells S w xs h)

set_option maxHeartbeats 4000000 in
theorem impl_useCache_c {ms : List NV} {uses : List (List UInt8)} {cap pol : Int} (hn : ms.length ≤ 1048576) (hs : ∀ x ∈ ms, x.name.length ≤ 1048576) (hL : CacheL ms uses cap) (hc : cap ≤ 1600000) (hq : 1 ≤ pol ∧ pol ≤ 3) :
    FnE (α := Unit) Try.prog 62 [.p (.sl 2 (ms.map encNV)), .p (.sl 1 (uses.map Go.V.encS)), .p (.v (.int .i64 cap)), .p (.v (.int .i64 pol))] [] [] (fun _ => True) (fun _ => .tup [.h 0, .p (.v (.int .i64 (missF ms uses cap pol))), .p (.v (.int .i64 0))]) (fun _ => [(0, .vec 9 1 ((cacheF ms uses cap pol).1.map Go.V.encS))]) := by
  have hok := hL.ok
  have hc1 := hL.cap1
  have hl := hL.len
  have hp := hL.one
  have hU : (uses.map Go.V.encS).length = uses.length := List.length_map ..
  refine FnE.intro Try.func62 rfl Try.ntmps62 rfl rfl (fun w0 F0 η φ w => ?_)
  refine AC.seq ?_
  refine AC.region ?_
  refine AO.yld _ (Yld.assign rfl) rfl rfl rfl ?_
  refine AO.yld _ (Yld.assign rfl) rfl rfl rfl ?_
  refine AO.yld _ (Yld.assign rfl) rfl rfl rfl ?_
  refine AO.nil ?_
  refine AC.seq ?_
  refine AC.seq ?_
  refine AC.region ?_
  refine AO.yld _ (Yld.move rfl) rfl rfl rfl ?_
  refine AO.yld _ (Yld.call rfl rfl Try.call83 rfl rfl rfl (impl_ValidMedia_c (by first | assumption | omega) (by assumption)) rfl) rfl rfl rfl ?_
  refine AO.yld _ (Yld.not rfl) rfl rfl rfl ?_
  refine AO.nil ?_
  refine AC.cond _ rfl (fun c23 => ?_) (fun c23 => ?_)
  · -- c23 True
    exfalso; rw [hok] at c23; cases c23
  · -- c23 False
    refine AC.skip ?_
    refine AC.seq ?_
    refine AC.seq ?_
    refine AC.region ?_
    refine AO.yld _ (Yld.move rfl) rfl rfl rfl ?_
    refine AO.yld _ (Yld.call rfl rfl Try.call40 rfl rfl rfl (impl_within_c) rfl) rfl rfl rfl ?_
    refine AO.yld _ (Yld.not rfl) rfl rfl rfl ?_
    refine AO.yld _ (Yld.move rfl) rfl rfl rfl ?_
    refine AO.splitAt 27 _ rfl (fun s27 => ?_) (fun s27 => ?_)
    · -- s27 True
      exfalso; simp at s27; omega
    · -- s27 False
      refine AO.yldG _ (Yld.move rfl) rfl rfl rfl rfl rfl ?_
      refine AO.yldG _ (Yld.call rfl rfl Try.call40 rfl rfl rfl (impl_within_c) rfl) rfl rfl rfl rfl rfl ?_
      refine AO.yldG _ (Yld.not rfl) rfl rfl rfl rfl rfl ?_
      refine AO.yld _ (Yld.pickF rfl rfl) rfl rfl rfl ?_
      refine AO.nil ?_
      refine AC.cond _ rfl (fun c31 => ?_) (fun c31 => ?_)
      · -- c31 True
        exfalso; simp at c31; omega
      · -- c31 False
        refine AC.skip ?_
        refine AC.seq ?_
        refine AC.seq ?_
        refine AC.region ?_
        refine AO.yld _ (Yld.move rfl) rfl rfl rfl ?_
        refine AO.yld _ (Yld.len Try.underlying59 rfl rfl) rfl rfl rfl ?_
        refine AO.yld _ (Yld.move rfl) rfl rfl rfl ?_
        refine AO.nil ?_
        refine AC.block ?_
        refine AC.loopC [(0, _), (1, _), (2, _), (3, _), (32, _), (33, _)] [(900, _)] (fun (k : Nat) => [(34, .p (.v (.int .i64 (k : Int))))]) (fun (k : Nat) => []) (fun (k : Nat) => k ≤ uses.length) (fun (k : Nat) => uses.length - k) 0 ⟨rfl, rfl, rfl, rfl, rfl, rfl, trivial⟩ ⟨rfl, trivial⟩ ⟨rfl, trivial⟩ trivial ?_ (fun k hJ => ?_)
        · exact Nat.zero_le _
        · -- round
          refine AC.seq ?_
          refine AC.region ?_
          refine AO.yld _ (Yld.int rfl rfl rfl) rfl rfl rfl ?_
          refine AO.nil ?_
          refine AC.seq ?_
          refine AC.cond _ rfl (fun c35 => ?_) (fun c35 => ?_)
          · -- c35 True
            have hk : k < uses.length := by have h := c35; rw [hU] at h; simpa using h
            obtain ⟨x, hx⟩ := get_some hk
            have hrow := map_row (enc := Go.V.encS) hx
            refine AC.skip ?_
            refine AC.seq ?_
            refine AC.block ?_
            refine AC.seq ?_
            refine AC.region ?_
            refine AO.yld _ (Yld.indexSl Try.underlying59 Try.sizeOf9 rfl rfl hrow rfl) rfl rfl rfl ?_
            refine AO.yld _ (Yld.load Try.isAgg9 rfl rfl) rfl rfl rfl ?_
            refine AO.yld _ (Yld.assign rfl) rfl rfl rfl ?_
            refine AO.nil ?_
            refine AC.seq ?_
            refine AC.region ?_
            refine AO.yld _ (Yld.move rfl) rfl rfl rfl ?_
            refine AO.yld _ (Yld.move rfl) rfl rfl rfl ?_
            refine AO.yld _ (Yld.call rfl rfl Try.call84 rfl rfl rfl (impl_sizeOf_c (by first | assumption | omega)) rfl) rfl rfl rfl ?_
            refine AO.yld _ (Yld.int rfl rfl rfl) rfl rfl rfl ?_
            refine AO.nil ?_
            refine AC.cond _ rfl (fun c41 => ?_) (fun c41 => ?_)
            · -- c41 True
              exfalso; have h9 := hL.fnd x (List.mem_of_getElem? hx); simp at c41; exact h9 c41
            · -- c41 False
              refine AC.skip ?_
              refine AC.mark ?_
              refine AC.region ?_
              refine AO.yld _ (Yld.add rfl rfl (by omega) (by omega)) rfl rfl rfl ?_
              refine AO.yld _ (Yld.move rfl) rfl rfl rfl ?_
              refine AO.nil ?_
              refine AC.back ⟨k + 1, ?_, ?_, ⟨?_, trivial⟩, trivial, ⟨rfl, rfl, rfl, rfl, rfl, rfl, trivial⟩, ⟨rfl, trivial⟩⟩
              · exact hk
              · omega
              · rfl
          · -- c35 False
            refine AC.exit rfl ?_
            refine AC.seq ?_
            refine AC.seq ?_
            refine AC.region ?_
            refine AO.yld _ (Yld.move rfl) rfl rfl rfl ?_
            refine AO.yld _ (Yld.len Try.underlying59 rfl rfl) rfl rfl rfl ?_
            refine AO.yld _ (Yld.int rfl rfl rfl) rfl rfl rfl ?_
            refine AO.nil ?_
            refine AC.cond _ rfl (fun c45 => ?_) (fun c45 => ?_)
            · -- c45 True
              exfalso; rw [hU] at c45; simp at c45; omega
            · -- c45 False
              refine AC.skip ?_
              refine AC.seq ?_
              refine AC.region ?_
              refine AO.yld _ (Yld.assign rfl) rfl rfl rfl ?_
              refine AO.nil ?_
              refine AC.seq ?_
              refine AC.region ?_
              refine AO.yld _ (Yld.assign rfl) rfl rfl rfl ?_
              refine AO.yld _ (Yld.assign rfl) rfl rfl rfl ?_
              refine AO.nil ?_
              refine AC.seq ?_
              refine AC.seq ?_
              refine AC.region ?_
              refine AO.yld _ (Yld.move rfl) rfl rfl rfl ?_
              refine AO.yld _ (Yld.len Try.underlying59 rfl rfl) rfl rfl rfl ?_
              refine AO.yld _ (Yld.move rfl) rfl rfl rfl ?_
              refine AO.nil ?_
              refine AC.block ?_
              refine AC.nilVec 13 0 9 1 rfl rfl ?_
              refine AC.loopC4 [(0, _), (1, _), (2, _), (3, _), (46, _), (47, _)] [(900, _)] (fun (k : Nat) (c : List (List UInt8)) (u m : Int) => [(48, .p (.v (.int .i64 (k : Int)))), (14, .p (.v (.int .i64 u))), (15, .p (.v (.int .i64 m))), (13, .h 0)]) (fun (k : Nat) (c : List (List UInt8)) (u m : Int) => [(0, .vec 9 1 (c.map Go.V.encS))]) (fun (k : Nat) (c : List (List UInt8)) (u m : Int) => CJ (lookup ms) pol cap uses k c u m) (fun (k : Nat) (c : List (List UInt8)) (u m : Int) => uses.length - k) 0 [] 0 0 ⟨rfl, rfl, rfl, rfl, rfl, rfl, trivial⟩ ⟨rfl, trivial⟩ ⟨rfl, rfl, rfl, rfl, trivial⟩ ⟨rfl, trivial⟩ ?_ (fun k c u m hJ => ?_)
              · exact CJ.start (by omega)
              · -- round
                have hJl := hJ.le
                have hJ0 := hJ.m0
                have hJm := hJ.mle
                have hJu := hJ.good.le
                have hcl := nodup_le hJ.good.nd hJ.good.sub
                refine AC.seq ?_
                refine AC.region ?_
                refine AO.yld _ (Yld.int rfl rfl rfl) rfl rfl rfl ?_
                refine AO.nil ?_
                refine AC.seq ?_
                refine AC.cond _ rfl (fun c49 => ?_) (fun c49 => ?_)
                · -- c49 True
                  have hk : k < uses.length := by have h := c49; rw [hU] at h; simpa using h
                  obtain ⟨x, hx⟩ := get_some hk
                  have hrow := map_row (enc := Go.V.encS) hx
                  have hlx := lookup_lim hok x
                  have hpx := hp x (List.mem_of_getElem? hx)
                  refine AC.skip ?_
                  refine AC.seq ?_
                  refine AC.block ?_
                  refine AC.seq ?_
                  refine AC.region ?_
                  refine AO.yld _ (Yld.move rfl) rfl rfl rfl ?_
                  refine AO.yld _ (Yld.indexSl Try.underlying59 Try.sizeOf9 rfl rfl hrow rfl) rfl rfl rfl ?_
                  refine AO.yld _ (Yld.load Try.isAgg9 rfl rfl) rfl rfl rfl ?_
                  refine AO.yld _ (Yld.assign rfl) rfl rfl rfl ?_
                  refine AO.yld _ (Yld.assign rfl) rfl rfl rfl ?_
                  refine AO.nil ?_
                  refine AC.seq ?_
                  refine AC.seq ?_
                  refine AC.region ?_
                  refine AO.yld _ (Yld.move rfl) rfl rfl rfl ?_
                  refine AO.yld _ (Yld.move rfl) rfl rfl rfl ?_
                  refine AO.yld _ (Yld.call rfl rfl Try.call85 rfl rfl rfl (indexStr_c (by omega)) rfl) rfl rfl rfl ?_
                  refine AO.yld _ (Yld.assign rfl) rfl rfl rfl ?_
                  refine AO.nil ?_
                  refine AC.seq ?_
                  refine AC.region ?_
                  refine AO.yld _ (Yld.move rfl) rfl rfl rfl ?_
                  refine AO.yld _ (Yld.int rfl rfl rfl) rfl rfl rfl ?_
                  refine AO.nil ?_
                  refine AC.cond _ rfl (fun c57 => ?_) (fun c57 => ?_)
                  · -- c57 True
                    have hm0 : 0 ≤ nxt c x := by simpa using c57
                    obtain ⟨an, han, hal, hay⟩ := nxt_at hm0
                    have hel : (c.eraseIdx an).length ≤ c.length := (List.eraseIdx_sublist c an).length_le
                    refine AC.seq ?_
                    refine AC.seq ?_
                    refine AC.region ?_
                    refine AO.yld _ (Yld.move rfl) rfl rfl rfl ?_
                    refine AO.yld _ (Yld.int rfl rfl rfl) rfl rfl rfl ?_
                    refine AO.nil ?_
                    refine AC.cond _ rfl (fun c59 => ?_) (fun c59 => ?_)
                    · -- c59 True
                      refine AC.region ?_
                      refine AO.yld _ (Yld.move rfl) rfl rfl rfl ?_
                      refine AO.yld _ (Yld.move rfl) rfl rfl rfl ?_
                      refine AO.yld _ (Yld.move rfl) rfl rfl rfl ?_
                      refine AO.yld _ (Yld.add rfl rfl (by omega) (by omega)) rfl rfl rfl ?_
                      refine AO.callW (wantedN rfl) [0] [0] [0] rfl rfl Try.call86 rfl (delS_c (zs := c) (i := an) han rfl hal) (.own rfl) rfl (fun _ => rfl) ⟨rfl, trivial⟩ rfl (fun _ => rfl) (fun _ => rfl) (fun _ _ => ?_)
                      refine AO.yld _ (Yld.move rfl) rfl rfl rfl ?_
                      refine AO.buildSlice (rows := [[_]]) 1 Try.underlying59 ty9 rfl rfl rfl rfl rfl rfl rfl rfl rfl ?_
                      refine AO.append 0 Try.underlying59 ty9 rfl rfl rfl rfl rfl rfl rfl (by simp [pvOne, str]) (by simp only [List.length_map, List.length_cons, List.length_nil, List.length_append]; omega) (by simp only [List.length_map, List.length_cons, List.length_nil, List.length_append]; omega) rfl ?_
                      refine AO.yld _ (Yld.assign rfl) rfl rfl rfl ?_
                      refine AO.nil ?_
                      refine AC.exit rfl ?_
                      refine AC.region ?_
                      refine AO.yld _ (Yld.add rfl rfl (by omega) (by omega)) rfl rfl rfl ?_
                      refine AO.yld _ (Yld.move rfl) rfl rfl rfl ?_
                      refine AO.nil ?_
                      refine AC.back ⟨k + 1, c.eraseIdx an ++ [x], u, m, ?_, ?_, ⟨?_, ?_, ?_, ?_, trivial⟩, ⟨?_, trivial⟩, ⟨rfl, rfl, rfl, rfl, rfl, rfl, trivial⟩, ⟨rfl, trivial⟩⟩
                      · exact hJ.next hx hp (step_a hm0 (by simpa using c59) han)
                      · omega
                      · rfl
                      · rfl
                      · rfl
                      · rfl
                      · first | rfl | (rw [map_snoc]; rfl)
                    · -- c59 False
                      refine AC.skip ?_
                      refine AC.exit rfl ?_
                      refine AC.region ?_
                      refine AO.yld _ (Yld.add rfl rfl (by omega) (by omega)) rfl rfl rfl ?_
                      refine AO.yld _ (Yld.move rfl) rfl rfl rfl ?_
                      refine AO.nil ?_
                      refine AC.back ⟨k + 1, c, u, m, ?_, ?_, ⟨?_, ?_, ?_, ?_, trivial⟩, ⟨?_, trivial⟩, ⟨rfl, rfl, rfl, rfl, rfl, rfl, trivial⟩, ⟨rfl, trivial⟩⟩
                      · exact hJ.next hx hp (step_b hm0 (by simpa using c59))
                      · omega
                      · rfl
                      · rfl
                      · rfl
                      · rfl
                      · first | rfl | (rw [map_snoc]; rfl)
                  · -- c57 False
                    have hm0 : ¬ 0 ≤ nxt c x := by simpa using c57
                    refine AC.skip ?_
                    refine AC.seq ?_
                    refine AC.region ?_
                    refine AO.yld _ (Yld.move rfl) rfl rfl rfl ?_
                    refine AO.yld _ (Yld.add rfl rfl (by omega) (by omega)) rfl rfl rfl ?_
                    refine AO.yld _ (Yld.assign rfl) rfl rfl rfl ?_
                    refine AO.nil ?_
                    refine AC.seq ?_
                    refine AC.region ?_
                    refine AO.yld _ (Yld.move rfl) rfl rfl rfl ?_
                    refine AO.yld _ (Yld.move rfl) rfl rfl rfl ?_
                    refine AO.yld _ (Yld.call rfl rfl Try.call84 rfl rfl rfl (impl_sizeOf_c (by first | assumption | omega)) rfl) rfl rfl rfl ?_
                    refine AO.yld _ (Yld.assign rfl) rfl rfl rfl ?_
                    refine AO.nil ?_
                    refine AC.seq ?_
                    refine AC.seq ?_
                    refine AC.region ?_
                    refine AO.yld _ (Yld.move rfl) rfl rfl rfl ?_
                    refine AO.yld _ (Yld.move rfl) rfl rfl rfl ?_
                    refine AO.yld _ (Yld.int rfl rfl rfl) rfl rfl rfl ?_
                    refine AO.nil ?_
                    refine AC.cond _ rfl (fun c75 => ?_) (fun c75 => ?_)
                    · -- c75 True
                      refine AC.exit rfl ?_
                      refine AC.region ?_
                      refine AO.yld _ (Yld.add rfl rfl (by omega) (by omega)) rfl rfl rfl ?_
                      refine AO.yld _ (Yld.move rfl) rfl rfl rfl ?_
                      refine AO.nil ?_
                      refine AC.back ⟨k + 1, c, u, m + 1, ?_, ?_, ⟨?_, ?_, ?_, ?_, trivial⟩, ⟨?_, trivial⟩, ⟨rfl, rfl, rfl, rfl, rfl, rfl, trivial⟩, ⟨rfl, trivial⟩⟩
                      · exact hJ.next hx hp (step_c hm0 (by simpa using c75))
                      · omega
                      · rfl
                      · rfl
                      · rfl
                      · rfl
                      · first | rfl | (rw [map_snoc]; rfl)
                    · -- c75 False
                      refine AC.skip ?_
                      refine AC.seq ?_
                      refine AC.block ?_
                      refine AC.loopC2 [(0, _), (1, _), (2, _), (3, _), (15, _), (16, _), (17, _), (19, _), (46, _), (47, _), (48, _)] [(900, _)] (fun (c2 : List (List UInt8)) (u2 : Int) => [(14, .p (.v (.int .i64 u2))), (13, .h 0)]) (fun (c2 : List (List UInt8)) (u2 : Int) => [(0, .vec 9 1 (c2.map Go.V.encS))]) (fun (c2 : List (List UInt8)) (u2 : Int) => CGood (lookup ms) cap uses c2 u2 ∧ shedL (lookup ms) pol cap (lookup ms x) (uses.drop (k + 1)) c2.length c2 u2 = shedL (lookup ms) pol cap (lookup ms x) (uses.drop (k + 1)) c.length c u) (fun (c2 : List (List UInt8)) (u2 : Int) => c2.length) c u ⟨rfl, rfl, rfl, rfl, rfl, rfl, rfl, rfl, rfl, rfl, rfl, trivial⟩ ⟨rfl, trivial⟩ ⟨rfl, rfl, trivial⟩ ⟨rfl, trivial⟩ ?_ (fun c2 u2 hI => ?_)
                      · exact ⟨hJ.good, rfl⟩
                      · -- round
                        have hIu := hI.1.le
                        have hIl := nodup_le hI.1.nd hI.1.sub
                        have hI0 := total_ge (sz := lookup ms) (c := c2) (fun z hz => hp z (hI.1.sub z hz))
                        rw [← hI.1.sum] at hI0
                        refine AC.seq ?_
                        refine AC.seq ?_
                        refine AC.region ?_
                        refine AO.yld _ (Yld.move rfl) rfl rfl rfl ?_
                        refine AO.yld _ (Yld.move rfl) rfl rfl rfl ?_
                        refine AO.yld _ (Yld.add rfl rfl (by omega) (by omega)) rfl rfl rfl ?_
                        refine AO.yld _ (Yld.move rfl) rfl rfl rfl ?_
                        refine AO.yld _ (Yld.int rfl rfl rfl) rfl rfl rfl ?_
                        refine AO.nil ?_
                        refine AC.cond _ rfl (fun c80 => ?_) (fun c80 => ?_)
                        · -- c80 True
                          have hg : u2 + lookup ms x > cap := by simpa using c80
                          have hne := hI.1.room (by have h := c75; simp at h; omega) hg
                          refine AC.skip ?_
                          refine AC.block ?_
                          refine AC.seq ?_
                          refine AC.region ?_
                          refine AO.yld _ (Yld.assign rfl) rfl rfl rfl ?_
                          refine AO.nil ?_
                          refine AC.seq ?_
                          refine AC.seq ?_
                          refine AC.region ?_
                          refine AO.yld _ (Yld.move rfl) rfl rfl rfl ?_
                          refine AO.yld _ (Yld.int rfl rfl rfl) rfl rfl rfl ?_
                          refine AO.nil ?_
                          refine AC.cond _ rfl (fun c82 => ?_) (fun c82 => ?_)
                          · -- c82 True
                            have hp3 : pol = 3 := by simpa using c82
                            obtain ⟨an, y, han, hal, hy, _⟩ := far_spec (rest := uses.drop (k + 1)) hne
                            have hat : atOf pol c2 (uses.drop (k + 1)) = an := by unfold atOf; rw [if_pos hp3, han]; rfl
                            have hrowY := map_row (enc := Go.V.encS) hy
                            have hly := lookup_lim hok y
                            refine AC.region ?_
                            refine AO.yld _ (Yld.move rfl) rfl rfl rfl ?_
                            refine AO.yld _ (Yld.move rfl) rfl rfl rfl ?_
                            refine AO.yld _ (Yld.move rfl) rfl rfl rfl ?_
                            refine AO.yld _ (Yld.add rfl rfl (by omega) (by omega)) rfl rfl rfl ?_
                            refine AO.yld _ (Yld.sliceFrom (l := (k + 1)) Try.underlying59 Try.sizeOf9 rfl rfl rfl (by omega)) rfl rfl rfl ?_
                            refine AO.yld _ (Yld.call rfl rfl Try.call87 rfl rfl rfl (impl_farthest_c (by omega) (by rw [List.length_drop]; omega)) rfl) rfl rfl rfl ?_
                            refine AO.yld _ (Yld.assign rfl) rfl rfl rfl ?_
                            refine AO.nil ?_
                            refine AC.seq ?_
                            refine AC.region ?_
                            refine AO.yld _ (Yld.move rfl) rfl rfl rfl ?_
                            refine AO.yld _ (Yld.move rfl) rfl rfl rfl ?_
                            refine AO.yld _ (Yld.move rfl) rfl rfl rfl ?_
                            refine AO.yld _ (Yld.move rfl) rfl rfl rfl ?_
                            refine AO.yld _ (Yld.indexVec Try.underlying59 Try.sizeOf9 rfl rfl rfl (show _ = ((an : Nat) : Int) from han) (by rw [List.length_map]; exact hal)) rfl rfl rfl ?_
                            refine AO.yld _ (Yld.load Try.isAgg9 rfl (Eq.trans (behind_el rfl hrowY) rfl)) rfl rfl rfl ?_
                            refine AO.yld _ (Yld.call rfl rfl Try.call84 rfl rfl rfl (impl_sizeOf_c (by first | assumption | omega)) rfl) rfl rfl rfl ?_
                            refine AO.yld _ (Yld.sub rfl rfl (by omega) (by omega)) rfl rfl rfl ?_
                            refine AO.yld _ (Yld.assign rfl) rfl rfl rfl ?_
                            refine AO.nil ?_
                            refine AC.region ?_
                            refine AO.yld _ (Yld.move rfl) rfl rfl rfl ?_
                            refine AO.yld _ (Yld.move rfl) rfl rfl rfl ?_
                            refine AO.yld _ (Yld.move rfl) rfl rfl rfl ?_
                            refine AO.yld _ (Yld.add rfl rfl (by omega) (by omega)) rfl rfl rfl ?_
                            refine AO.callW (wantedN rfl) [0] [0] [0] rfl rfl Try.call86 rfl (delS_c (zs := c2) (i := an) han rfl hal) (.own rfl) rfl (fun _ => rfl) ⟨rfl, trivial⟩ rfl (fun _ => rfl) (fun _ => rfl) (fun _ _ => ?_)
                            refine AO.yld _ (Yld.assign rfl) rfl rfl rfl ?_
                            refine AO.nil ?_
                            refine AC.mark ?_
                            refine AC.back ⟨c2.eraseIdx an, u2 - lookup ms y, ?_, ?_, ⟨?_, ?_, trivial⟩, ⟨?_, trivial⟩, ⟨rfl, rfl, rfl, rfl, rfl, rfl, rfl, rfl, rfl, rfl, rfl, trivial⟩, ⟨rfl, trivial⟩⟩
                            · exact ⟨hI.1.erase hp hy, by rw [← hI.2, shedL_go hg (by rw [hat]; exact hy), hat]⟩
                            · rw [List.length_eraseIdx_of_lt hal]; omega
                            · rfl
                            · rfl
                            · rfl
                          · -- c82 False
                            have hp3 : ¬ pol = 3 := by simpa using c82
                            obtain ⟨an, han⟩ : ∃ an : Nat, (0 : Int) = (an : Int) := ⟨0, rfl⟩
                            have hal : an < c2.length := by have := List.length_pos_iff.2 hne; omega
                            obtain ⟨y, hy⟩ := get_some hal
                            have hat : atOf pol c2 (uses.drop (k + 1)) = an := by unfold atOf; rw [if_neg hp3]; omega
                            have hrowY := map_row (enc := Go.V.encS) hy
                            have hly := lookup_lim hok y
                            refine AC.skip ?_
                            refine AC.seq ?_
                            refine AC.region ?_
                            refine AO.yld _ (Yld.move rfl) rfl rfl rfl ?_
                            refine AO.yld _ (Yld.move rfl) rfl rfl rfl ?_
                            refine AO.yld _ (Yld.move rfl) rfl rfl rfl ?_
                            refine AO.yld _ (Yld.move rfl) rfl rfl rfl ?_
                            refine AO.yld _ (Yld.indexVec Try.underlying59 Try.sizeOf9 rfl rfl rfl (show _ = ((an : Nat) : Int) from han) (by rw [List.length_map]; exact hal)) rfl rfl rfl ?_
                            refine AO.yld _ (Yld.load Try.isAgg9 rfl (Eq.trans (behind_el rfl hrowY) rfl)) rfl rfl rfl ?_
                            refine AO.yld _ (Yld.call rfl rfl Try.call84 rfl rfl rfl (impl_sizeOf_c (by first | assumption | omega)) rfl) rfl rfl rfl ?_
                            refine AO.yld _ (Yld.sub rfl rfl (by omega) (by omega)) rfl rfl rfl ?_
                            refine AO.yld _ (Yld.assign rfl) rfl rfl rfl ?_
                            refine AO.nil ?_
                            refine AC.region ?_
                            refine AO.yld _ (Yld.move rfl) rfl rfl rfl ?_
                            refine AO.yld _ (Yld.move rfl) rfl rfl rfl ?_
                            refine AO.yld _ (Yld.move rfl) rfl rfl rfl ?_
                            refine AO.yld _ (Yld.add rfl rfl (by omega) (by omega)) rfl rfl rfl ?_
                            refine AO.callW (wantedN rfl) [0] [0] [0] rfl rfl Try.call86 rfl (delS_c (zs := c2) (i := an) han rfl hal) (.own rfl) rfl (fun _ => rfl) ⟨rfl, trivial⟩ rfl (fun _ => rfl) (fun _ => rfl) (fun _ _ => ?_)
                            refine AO.yld _ (Yld.assign rfl) rfl rfl rfl ?_
                            refine AO.nil ?_
                            refine AC.mark ?_
                            refine AC.back ⟨c2.eraseIdx an, u2 - lookup ms y, ?_, ?_, ⟨?_, ?_, trivial⟩, ⟨?_, trivial⟩, ⟨rfl, rfl, rfl, rfl, rfl, rfl, rfl, rfl, rfl, rfl, rfl, trivial⟩, ⟨rfl, trivial⟩⟩
                            · exact ⟨hI.1.erase hp hy, by rw [← hI.2, shedL_go hg (by rw [hat]; exact hy), hat]⟩
                            · rw [List.length_eraseIdx_of_lt hal]; omega
                            · rfl
                            · rfl
                            · rfl
                        · -- c80 False
                          refine AC.exit rfl ?_
                          refine AC.seq ?_
                          refine AC.region ?_
                          refine AO.yld _ (Yld.move rfl) rfl rfl rfl ?_
                          refine AO.yld _ (Yld.move rfl) rfl rfl rfl ?_
                          refine AO.buildSlice (rows := [[_]]) 1 Try.underlying59 ty9 rfl rfl rfl rfl rfl rfl rfl rfl rfl ?_
                          refine AO.append 0 Try.underlying59 ty9 rfl rfl rfl rfl rfl rfl rfl (by simp [pvOne, str]) (by simp only [List.length_map, List.length_cons, List.length_nil, List.length_append]; omega) (by simp only [List.length_map, List.length_cons, List.length_nil, List.length_append]; omega) rfl ?_
                          refine AO.yld _ (Yld.assign rfl) rfl rfl rfl ?_
                          refine AO.nil ?_
                          refine AC.region ?_
                          refine AO.yld _ (Yld.move rfl) rfl rfl rfl ?_
                          refine AO.yld _ (Yld.move rfl) rfl rfl rfl ?_
                          refine AO.yld _ (Yld.add rfl rfl (by omega) (by omega)) rfl rfl rfl ?_
                          refine AO.yld _ (Yld.assign rfl) rfl rfl rfl ?_
                          refine AO.nil ?_
                          refine AC.mark ?_
                          refine AC.region ?_
                          refine AO.yld _ (Yld.add rfl rfl (by omega) (by omega)) rfl rfl rfl ?_
                          refine AO.yld _ (Yld.move rfl) rfl rfl rfl ?_
                          refine AO.nil ?_
                          refine AC.back ⟨k + 1, c2 ++ [x], u2 + lookup ms x, m + 1, ?_, ?_, ⟨?_, ?_, ?_, ?_, trivial⟩, ⟨?_, trivial⟩, ⟨rfl, rfl, rfl, rfl, rfl, rfl, trivial⟩, ⟨rfl, trivial⟩⟩
                          · exact hJ.next hx hp (step_d hm0 (by simpa using c75) hI.2 (by simpa using c80))
                          · omega
                          · rfl
                          · rfl
                          · rfl
                          · rfl
                          · first | rfl | (rw [map_snoc]; rfl)
                · -- c49 False
                  obtain rfl : k = uses.length := by have h := c49; rw [hU] at h; simp at h; omega
                  have hfin : cacheF ms uses cap pol = (c, u, m) := hJ.fin
                  refine AC.exit rfl ?_
                  refine AC.seq ?_
                  refine AC.region ?_
                  refine AO.yld _ (Yld.move rfl) rfl rfl rfl ?_
                  refine AO.yld _ (Yld.move rfl) rfl rfl rfl ?_
                  refine AO.yld _ (Yld.assign rfl) rfl rfl rfl ?_
                  refine AO.yld _ (Yld.assign rfl) rfl rfl rfl ?_
                  refine AO.yld _ (Yld.assign rfl) rfl rfl rfl ?_
                  refine AO.nil ?_
                  refine FnE.ret () [0] [0] Try.results62 (RVs.cons (RV.tmp rfl) (RVs.cons (RV.tmp rfl) (RVs.cons (RV.tmp rfl) RVs.nil))) rfl rfl rfl ?_ ?_ ⟨⟨_, rfl, ?_⟩, trivial⟩
                  · -- holds
                    trivial
                  · -- value
                    first | rfl | (unfold missF; rw [hfin]; first | done | rfl)
                  · -- thing 0
                    first | rfl | (rw [hfin]; rfl)

theorem impl_CacheAfter_c {ms : List NV} {uses : List (List UInt8)} {cap pol : Int} (hn : ms.length ≤ 1048576) (hs : ∀ x ∈ ms, x.name.length ≤ 1048576) (hL : CacheL ms uses cap) (hc : cap ≤ 1600000) (hq : 1 ≤ pol ∧ pol ≤ 3) :
    FnE (α := Unit) Try.prog 31 [.p (.sl 2 (ms.map encNV)), .p (.sl 1 (uses.map Go.V.encS)), .p (.v (.int .i64 cap)), .p (.v (.int .i64 pol))] [] [] (fun _ => True) (fun _ => .tup [.h 0, .p (.v (.int .i64 0))]) (fun _ => [(0, .vec 9 1 ((cacheF ms uses cap pol).1.map Go.V.encS))]) := by
  refine FnE.intro Try.func31 rfl Try.ntmps31 rfl rfl (fun w0 F0 η φ w => ?_)
  refine AC.seq ?_
  refine AC.region ?_
  refine AO.yld _ (Yld.assign rfl) rfl rfl rfl ?_
  refine AO.yld _ (Yld.assign rfl) rfl rfl rfl ?_
  refine AO.nil ?_
  refine AC.seq ?_
  refine AC.region ?_
  refine AO.yld _ (Yld.move rfl) rfl rfl rfl ?_
  refine AO.yld _ (Yld.move rfl) rfl rfl rfl ?_
  refine AO.yld _ (Yld.move rfl) rfl rfl rfl ?_
  refine AO.yld _ (Yld.move rfl) rfl rfl rfl ?_
  refine AO.callW (wantedN rfl) [0] [] [0] rfl rfl Try.call62 rfl (impl_useCache_c (by first | assumption | omega) (by assumption) (by assumption) (by omega) (by omega)) (.flat (.view rfl rfl (.view rfl rfl (.view rfl rfl (.view rfl rfl .nil)))) (fun _ => by simp [AV.Flat, AV.FlatL, PV.Flat, PV.FlatL]) (fun _ => ⟨flat_map flatS _, trivial⟩)) rfl (fun _ => rfl) trivial rfl (fun _ => rfl) (fun _ => rfl) (fun _ _ => ?_)
  refine AO.yld _ (Yld.move rfl) rfl rfl rfl ?_
  refine AO.yld _ (Yld.extract rfl rfl rfl) rfl rfl rfl ?_
  refine AO.yld _ (Yld.extract rfl rfl rfl) rfl rfl rfl ?_
  refine AO.yld _ (Yld.extract rfl rfl rfl) rfl rfl rfl ?_
  refine AO.yld _ (Yld.assign rfl) rfl rfl rfl ?_
  refine AO.yld _ (Yld.assign rfl) rfl rfl rfl ?_
  refine AO.yld _ (Yld.assign rfl) rfl rfl rfl ?_
  refine AO.nil ?_
  refine AC.seq ?_
  refine AC.region ?_
  refine AO.yld _ (Yld.move rfl) rfl rfl rfl ?_
  refine AO.yld _ (Yld.move rfl) rfl rfl rfl ?_
  refine AO.yld _ (Yld.assign rfl) rfl rfl rfl ?_
  refine AO.yld _ (Yld.assign rfl) rfl rfl rfl ?_
  refine AO.nil ?_
  refine FnE.ret () [0] [0] Try.results31 (RVs.cons (RV.tmp rfl) (RVs.cons (RV.tmp rfl) RVs.nil)) rfl rfl rfl ?_ ?_ ⟨⟨_, rfl, ?_⟩, trivial⟩
  · -- holds
    trivial
  · -- value
    rfl
  · -- thing 0
    rfl

theorem impl_MissesOf_c {ms : List NV} {uses : List (List UInt8)} {cap pol : Int} (hn : ms.length ≤ 1048576) (hs : ∀ x ∈ ms, x.name.length ≤ 1048576) (hL : CacheL ms uses cap) (hc : cap ≤ 1600000) (hq : 1 ≤ pol ∧ pol ≤ 3) :
    Pure Try.prog 32 [.sl 2 (ms.map encNV), .sl 1 (uses.map Go.V.encS), .v (.int .i64 cap), .v (.int .i64 pol)] (.tup [.v (.int .i64 (missF ms uses cap pol)), .v (.int .i64 0)]) := by
  refine Pure.intro Try.func32 rfl Try.ntmps32 rfl rfl (fun w => ?_)
  refine AC.seq ?_
  refine AC.region ?_
  refine AO.yld _ (Yld.assign rfl) rfl rfl rfl ?_
  refine AO.yld _ (Yld.assign rfl) rfl rfl rfl ?_
  refine AO.nil ?_
  refine AC.seq ?_
  refine AC.region ?_
  refine AO.yld _ (Yld.move rfl) rfl rfl rfl ?_
  refine AO.yld _ (Yld.move rfl) rfl rfl rfl ?_
  refine AO.yld _ (Yld.move rfl) rfl rfl rfl ?_
  refine AO.yld _ (Yld.move rfl) rfl rfl rfl ?_
  refine AO.callW (wantedN rfl) [0] [] [0] rfl rfl Try.call62 rfl (impl_useCache_c (by first | assumption | omega) (by assumption) (by assumption) (by omega) (by omega)) (.flat (.view rfl rfl (.view rfl rfl (.view rfl rfl (.view rfl rfl .nil)))) (fun _ => by simp [AV.Flat, AV.FlatL, PV.Flat, PV.FlatL]) (fun _ => ⟨flat_map flatS _, trivial⟩)) rfl (fun _ => rfl) trivial rfl (fun _ => rfl) (fun _ => rfl) (fun _ _ => ?_)
  refine AO.yld _ (Yld.move rfl) rfl rfl rfl ?_
  refine AO.yld _ (Yld.extract rfl rfl rfl) rfl rfl rfl ?_
  refine AO.yld _ (Yld.extract rfl rfl rfl) rfl rfl rfl ?_
  refine AO.yld _ (Yld.extract rfl rfl rfl) rfl rfl rfl ?_
  refine AO.yld _ (Yld.assign rfl) rfl rfl rfl ?_
  refine AO.yld _ (Yld.assign rfl) rfl rfl rfl ?_
  refine AO.yld _ (Yld.assign rfl) rfl rfl rfl ?_
  refine AO.nil ?_
  refine AC.seq ?_
  refine AC.region ?_
  refine AO.yld _ (Yld.move rfl) rfl rfl rfl ?_
  refine AO.yld _ (Yld.move rfl) rfl rfl rfl ?_
  refine AO.yld _ (Yld.assign rfl) rfl rfl rfl ?_
  refine AO.yld _ (Yld.assign rfl) rfl rfl rfl ?_
  refine AO.nil ?_
  refine Pure.retT Try.results32 (RVs.cons (RV.tmp rfl) (RVs.cons (RV.tmp rfl) RVs.nil)) rfl ?_
  first | rfl | (simp_all; done) | (simp_all; intros; omega) | grind

theorem impl_BestPolicy_c {ms : List NV} {uses : List (List UInt8)} {cap : Int} (hn : ms.length ≤ 1048576) (hs : ∀ x ∈ ms, x.name.length ≤ 1048576) (hL : CacheL ms uses cap) (hc : cap ≤ 1600000) :
    Pure Try.prog 34 [.sl 2 (ms.map encNV), .sl 1 (uses.map Go.V.encS), .v (.int .i64 cap)] (.tup [.v (.int .i64 (bestP (missF ms uses cap) 3).1), .v (.int .i64 (bestP (missF ms uses cap) 3).2), .v (.int .i64 0)]) := by
  refine Pure.intro Try.func34 rfl Try.ntmps34 rfl rfl (fun w => ?_)
  refine AC.seq ?_
  refine AC.region ?_
  refine AO.yld _ (Yld.assign rfl) rfl rfl rfl ?_
  refine AO.yld _ (Yld.assign rfl) rfl rfl rfl ?_
  refine AO.yld _ (Yld.assign rfl) rfl rfl rfl ?_
  refine AO.nil ?_
  refine AC.seq ?_
  refine AC.region ?_
  refine AO.yld _ (Yld.assign rfl) rfl rfl rfl ?_
  refine AO.yld _ (Yld.assign rfl) rfl rfl rfl ?_
  refine AO.nil ?_
  refine AC.seq ?_
  refine AC.seq ?_
  refine AC.region ?_
  refine AO.yld _ (Yld.assign rfl) rfl rfl rfl ?_
  refine AO.nil ?_
  refine AC.block ?_
  refine AC.loopC [(0, _), (1, _), (2, _)] [] (fun (k : Nat) => [(11, .p (.v (.int .i64 ((k : Int) + 1)))), (9, .p (.v (.int .i64 (bestP (missF ms uses cap) k).1))), (10, .p (.v (.int .i64 (bestP (missF ms uses cap) k).2)))]) (fun (k : Nat) => []) (fun (k : Nat) => k ≤ 3) (fun (k : Nat) => 3 - k) 0 ⟨rfl, rfl, rfl, trivial⟩ trivial ⟨rfl, rfl, rfl, trivial⟩ trivial ?_ (fun k hJ => ?_)
  · exact Nat.zero_le _
  · -- round
    refine AC.seq ?_
    refine AC.seq ?_
    refine AC.region ?_
    refine AO.yld _ (Yld.move rfl) rfl rfl rfl ?_
    refine AO.yld _ (Yld.int rfl rfl rfl) rfl rfl rfl ?_
    refine AO.nil ?_
    refine AC.cond _ rfl (fun c16 => ?_) (fun c16 => ?_)
    · -- c16 True
      have hk : k < 3 := by have h := c16; simp at h; omega
      refine AC.skip ?_
      refine AC.seq ?_
      refine AC.block ?_
      refine AC.seq ?_
      refine AC.region ?_
      refine AO.yld _ (Yld.move rfl) rfl rfl rfl ?_
      refine AO.yld _ (Yld.move rfl) rfl rfl rfl ?_
      refine AO.yld _ (Yld.move rfl) rfl rfl rfl ?_
      refine AO.yld _ (Yld.move rfl) rfl rfl rfl ?_
      refine AO.callW (wantedN rfl) [0] [] [0] rfl rfl Try.call62 rfl (impl_useCache_c (pol := (k : Int) + 1) hn hs hL hc (by omega)) (.flat (.view rfl rfl (.view rfl rfl (.view rfl rfl (.view rfl rfl .nil)))) (fun _ => by simp [AV.Flat, AV.FlatL, PV.Flat, PV.FlatL]) (fun _ => ⟨flat_map flatS _, trivial⟩)) rfl (fun _ => rfl) trivial rfl (fun _ => rfl) (fun _ => rfl) (fun _ _ => ?_)
      refine AO.yld _ (Yld.move rfl) rfl rfl rfl ?_
      refine AO.yld _ (Yld.extract rfl rfl rfl) rfl rfl rfl ?_
      refine AO.yld _ (Yld.extract rfl rfl rfl) rfl rfl rfl ?_
      refine AO.yld _ (Yld.extract rfl rfl rfl) rfl rfl rfl ?_
      refine AO.yld _ (Yld.assign rfl) rfl rfl rfl ?_
      refine AO.yld _ (Yld.assign rfl) rfl rfl rfl ?_
      refine AO.yld _ (Yld.assign rfl) rfl rfl rfl ?_
      refine AO.nil ?_
      refine AC.seq ?_
      refine AC.seq ?_
      refine AC.region ?_
      refine AO.yld _ (Yld.move rfl) rfl rfl rfl ?_
      refine AO.yld _ (Yld.int rfl rfl rfl) rfl rfl rfl ?_
      refine AO.nil ?_
      refine AC.cond _ rfl (fun c29 => ?_) (fun c29 => ?_)
      · -- c29 True
        refine AC.seq ?_
        refine AC.region ?_
        refine AO.yld _ (Yld.move rfl) rfl rfl rfl ?_
        refine AO.yld _ (Yld.assign rfl) rfl rfl rfl ?_
        refine AO.yld _ (Yld.assign rfl) rfl rfl rfl ?_
        refine AO.yld _ (Yld.assign rfl) rfl rfl rfl ?_
        refine AO.nil ?_
        refine Pure.retT Try.results34 (RVs.cons (RV.tmp rfl) (RVs.cons (RV.tmp rfl) (RVs.cons (RV.tmp rfl) RVs.nil))) rfl ?_
        first | rfl | (simp_all; done) | (simp_all; intros; omega) | grind
      · -- c29 False
        refine AC.skip ?_
        refine AC.seq ?_
        refine AC.region ?_
        refine AO.yld _ (Yld.move rfl) rfl rfl rfl ?_
        refine AO.yld _ (Yld.int rfl rfl rfl) rfl rfl rfl ?_
        refine AO.yld _ (Yld.move rfl) rfl rfl rfl ?_
        refine AO.splitAt 33 _ rfl (fun s33 => ?_) (fun s33 => ?_)
        · -- s33 True
          refine AO.skipF rfl rfl rfl rfl rfl ?_
          refine AO.skipF rfl rfl rfl rfl rfl ?_
          refine AO.skipF rfl rfl rfl rfl rfl ?_
          refine AO.yld _ (Yld.pickT rfl rfl) rfl rfl rfl ?_
          refine AO.nil ?_
          refine AC.condT rfl ?_
          refine AC.region ?_
          refine AO.yld _ (Yld.move rfl) rfl rfl rfl ?_
          refine AO.yld _ (Yld.move rfl) rfl rfl rfl ?_
          refine AO.yld _ (Yld.assign rfl) rfl rfl rfl ?_
          refine AO.yld _ (Yld.assign rfl) rfl rfl rfl ?_
          refine AO.nil ?_
          refine AC.mark ?_
          refine AC.region ?_
          refine AO.yld _ (Yld.move rfl) rfl rfl rfl ?_
          refine AO.yld _ (Yld.add rfl rfl (by omega) (by omega)) rfl rfl rfl ?_
          refine AO.yld _ (Yld.assign rfl) rfl rfl rfl ?_
          refine AO.nil ?_
          refine AC.back ⟨k + 1, ?_, ?_, ⟨?_, ?_, ?_, trivial⟩, trivial, ⟨rfl, rfl, rfl, trivial⟩, trivial⟩
          · exact hk
          · omega
          · show some (AV.p (PV.v (Value.int IntKind.i64 _))) = _; first | done | rfl | (congr 4; done) | (congr 4; omega)
          · show some (AV.p (PV.v (Value.int IntKind.i64 _))) = _; first | (rw [bestP_T (.inl (by simpa using s33))]; done) | (rw [bestP_T (.inr (by simpa using c37))]; done) | (rw [bestP_F (by have h1 := s33; have h2 := c37; simp at h1 h2; omega)]; done) | rw [bestP_T (.inl (by simpa using s33))] | rw [bestP_T (.inr (by simpa using c37))] | rw [bestP_F (by have h1 := s33; have h2 := c37; simp at h1 h2; omega)]
          · show some (AV.p (PV.v (Value.int IntKind.i64 _))) = _; first | (rw [bestP_T (.inl (by simpa using s33))]; done) | (rw [bestP_T (.inr (by simpa using c37))]; done) | (rw [bestP_F (by have h1 := s33; have h2 := c37; simp at h1 h2; omega)]; done) | rw [bestP_T (.inl (by simpa using s33))] | rw [bestP_T (.inr (by simpa using c37))] | rw [bestP_F (by have h1 := s33; have h2 := c37; simp at h1 h2; omega)]
        · -- s33 False
          refine AO.yldG _ (Yld.move rfl) rfl rfl rfl rfl rfl ?_
          refine AO.yldG _ (Yld.move rfl) rfl rfl rfl rfl rfl ?_
          refine AO.yldG _ (Yld.int rfl rfl rfl) rfl rfl rfl rfl rfl ?_
          refine AO.yld _ (Yld.pickF rfl rfl) rfl rfl rfl ?_
          refine AO.nil ?_
          refine AC.cond _ rfl (fun c37 => ?_) (fun c37 => ?_)
          · -- c37 True
            refine AC.region ?_
            refine AO.yld _ (Yld.move rfl) rfl rfl rfl ?_
            refine AO.yld _ (Yld.move rfl) rfl rfl rfl ?_
            refine AO.yld _ (Yld.assign rfl) rfl rfl rfl ?_
            refine AO.yld _ (Yld.assign rfl) rfl rfl rfl ?_
            refine AO.nil ?_
            refine AC.mark ?_
            refine AC.region ?_
            refine AO.yld _ (Yld.move rfl) rfl rfl rfl ?_
            refine AO.yld _ (Yld.add rfl rfl (by omega) (by omega)) rfl rfl rfl ?_
            refine AO.yld _ (Yld.assign rfl) rfl rfl rfl ?_
            refine AO.nil ?_
            refine AC.back ⟨k + 1, ?_, ?_, ⟨?_, ?_, ?_, trivial⟩, trivial, ⟨rfl, rfl, rfl, trivial⟩, trivial⟩
            · exact hk
            · omega
            · show some (AV.p (PV.v (Value.int IntKind.i64 _))) = _; first | done | rfl | (congr 4; done) | (congr 4; omega)
            · show some (AV.p (PV.v (Value.int IntKind.i64 _))) = _; first | (rw [bestP_T (.inl (by simpa using s33))]; done) | (rw [bestP_T (.inr (by simpa using c37))]; done) | (rw [bestP_F (by have h1 := s33; have h2 := c37; simp at h1 h2; omega)]; done) | rw [bestP_T (.inl (by simpa using s33))] | rw [bestP_T (.inr (by simpa using c37))] | rw [bestP_F (by have h1 := s33; have h2 := c37; simp at h1 h2; omega)]
            · show some (AV.p (PV.v (Value.int IntKind.i64 _))) = _; first | (rw [bestP_T (.inl (by simpa using s33))]; done) | (rw [bestP_T (.inr (by simpa using c37))]; done) | (rw [bestP_F (by have h1 := s33; have h2 := c37; simp at h1 h2; omega)]; done) | rw [bestP_T (.inl (by simpa using s33))] | rw [bestP_T (.inr (by simpa using c37))] | rw [bestP_F (by have h1 := s33; have h2 := c37; simp at h1 h2; omega)]
          · -- c37 False
            refine AC.skip ?_
            refine AC.mark ?_
            refine AC.region ?_
            refine AO.yld _ (Yld.move rfl) rfl rfl rfl ?_
            refine AO.yld _ (Yld.add rfl rfl (by omega) (by omega)) rfl rfl rfl ?_
            refine AO.yld _ (Yld.assign rfl) rfl rfl rfl ?_
            refine AO.nil ?_
            refine AC.back ⟨k + 1, ?_, ?_, ⟨?_, ?_, ?_, trivial⟩, trivial, ⟨rfl, rfl, rfl, trivial⟩, trivial⟩
            · exact hk
            · omega
            · show some (AV.p (PV.v (Value.int IntKind.i64 _))) = _; first | done | rfl | (congr 4; done) | (congr 4; omega)
            · show some (AV.p (PV.v (Value.int IntKind.i64 _))) = _; first | (rw [bestP_T (.inl (by simpa using s33))]; done) | (rw [bestP_T (.inr (by simpa using c37))]; done) | (rw [bestP_F (by have h1 := s33; have h2 := c37; simp at h1 h2; omega)]; done) | rw [bestP_T (.inl (by simpa using s33))] | rw [bestP_T (.inr (by simpa using c37))] | rw [bestP_F (by have h1 := s33; have h2 := c37; simp at h1 h2; omega)]
            · show some (AV.p (PV.v (Value.int IntKind.i64 _))) = _; first | (rw [bestP_T (.inl (by simpa using s33))]; done) | (rw [bestP_T (.inr (by simpa using c37))]; done) | (rw [bestP_F (by have h1 := s33; have h2 := c37; simp at h1 h2; omega)]; done) | rw [bestP_T (.inl (by simpa using s33))] | rw [bestP_T (.inr (by simpa using c37))] | rw [bestP_F (by have h1 := s33; have h2 := c37; simp at h1 h2; omega)]
    · -- c16 False
      obtain rfl : k = 3 := by have h := c16; simp at h; omega
      refine AC.exit rfl ?_
      refine AC.seq ?_
      refine AC.region ?_
      refine AO.yld _ (Yld.move rfl) rfl rfl rfl ?_
      refine AO.yld _ (Yld.move rfl) rfl rfl rfl ?_
      refine AO.yld _ (Yld.assign rfl) rfl rfl rfl ?_
      refine AO.yld _ (Yld.assign rfl) rfl rfl rfl ?_
      refine AO.yld _ (Yld.assign rfl) rfl rfl rfl ?_
      refine AO.nil ?_
      refine Pure.retT Try.results34 (RVs.cons (RV.tmp rfl) (RVs.cons (RV.tmp rfl) (RVs.cons (RV.tmp rfl) RVs.nil))) rfl ?_
      first | rfl | (simp_all; done) | (simp_all; intros; omega) | grind

end Go.Proofs.Ytdpanmnnfamfmaa
