/- Contracts of functions of the program, each by a walk of its text in the calculus V. -/
import Derived.Test.YtiilobkfonjlhaaR4A
import Derived.Test.YtiilobkfonjlhaaD15
set_option linter.all false
set_option linter.unusedSimpArgs false
set_option linter.unnecessarySimpa false
set_option linter.unusedVariables false
namespace Go.Proofs.Ytiilobkfonjlhaa
open Go Go.V

theorem laws_toVersionS_n {xs : List Ver} (hg : VersGood xs) :
    FnE (α := Unit) Try.prog 15 [.p (.sl 4 (xs.map encVer))] [] [] (fun _ => True) (fun _ => .h 0) (fun _ => [(0, .cust (nestC 92 4 137 2 (xs.map verC) (xs.map verI) (xs.map encVer) ver_nest))]) := by
  have hM : (xs.map encVer).length = xs.length := List.length_map ..
  have hn := hg.1
  refine FnE.intro Try.func15 rfl Try.ntmps15 rfl rfl (fun w0 F0 η φ w => ?_)
  refine AC.seq ?_
  refine AC.region ?_
  refine AO.yld _ (Yld.assign rfl) rfl rfl rfl ?_
  refine AO.nil ?_
  refine AC.seq ?_
  refine AC.region ?_
  refine AO.yld _ (Yld.move rfl) rfl rfl rfl ?_
  refine AO.yld _ (Yld.len Try.underlying22 rfl rfl) rfl rfl rfl ?_
  refine AO.make 0 Try.underlying26 ty92 rfl rfl rfl rfl rfl (Nat.le_refl _) (by rw [hM]; omega) (by rw [hM]; omega) rfl rfl ?_
  refine AO.yld _ (Yld.assign rfl) rfl rfl rfl ?_
  refine AO.nil ?_
  refine AC.seq ?_
  refine AC.seq ?_
  refine AC.region ?_
  refine AO.yld _ (Yld.assign rfl) rfl rfl rfl ?_
  refine AO.nil ?_
  refine AC.block ?_
  refine AC.poolNew 1 137 2 rfl ?_
  refine AC.loopC2 [(0, _), (2, _), (3, _)] [(900, _)] (fun (k : Nat) (vs : List Value) => [(4, .p (.v (.int .i64 (k : Int)))), (3, .h 0)]) (fun (k : Nat) (vs : List Value) => [(0, .vec 92 4 (nfill [.v (.int .i64 0), .v (.int .i64 0), .v (.string ⟨#[]⟩), .sl 0 []] xs vs)), (1, .cust (poolC 137 2 (poolL vs ((xs.take k).map verI))))]) (fun (k : Nat) (vs : List Value) => k ≤ xs.length ∧ vs.length = k) (fun (k : Nat) (vs : List Value) => xs.length - k) 0 [] ⟨rfl, rfl, rfl, trivial⟩ ⟨rfl, trivial⟩ ⟨rfl, rfl, trivial⟩ ⟨by rw [nfill_zero, ← hM]; rfl, rfl, trivial⟩ ?_ (fun k vs hJ => ?_)
  · exact ⟨Nat.zero_le _, rfl⟩
  · -- round
    refine AC.seq ?_
    refine AC.seq ?_
    refine AC.region ?_
    refine AO.yld _ (Yld.move rfl) rfl rfl rfl ?_
    refine AO.yld _ (Yld.move rfl) rfl rfl rfl ?_
    refine AO.yld _ (Yld.len Try.underlying22 rfl rfl) rfl rfl rfl ?_
    refine AO.yld _ (Yld.int rfl rfl rfl) rfl rfl rfl ?_
    refine AO.nil ?_
    refine AC.cond _ rfl (fun c11 => ?_) (fun c11 => ?_)
    · -- c11 True
      have hk := lt_of_decM c11
      obtain ⟨x, hx⟩ := get_some hk
      have hrow := map_row (enc := encVer) hx
      have hgx := hg.2 x (List.mem_of_getElem? hx)
      refine AC.skip ?_
      refine AC.seq ?_
      refine AC.block ?_
      refine AC.region ?_
      refine AO.yld _ (Yld.move rfl) rfl rfl rfl ?_
      refine AO.yld _ (Yld.move rfl) rfl rfl rfl ?_
      refine AO.yld _ (Yld.move rfl) rfl rfl rfl ?_
      refine AO.yld _ (Yld.move rfl) rfl rfl rfl ?_
      refine AO.yld _ (Yld.indexSl Try.underlying22 Try.sizeOf87 rfl rfl hrow rfl) rfl rfl rfl ?_
      refine AO.yld _ (Yld.loadAgg Try.isAgg87 Try.sizeOf87 rfl rfl rfl rfl) rfl rfl rfl ?_
      refine AO.callW (wantedN rfl) [2] [] [0] rfl rfl Try.call69 rfl (laws_toVersion_c (by assumption)) (.own rfl) rfl (fun _ => rfl) trivial rfl (fun _ => rfl) (fun _ => rfl) (fun _ _ => ?_)
      refine AO.poolAdd 2 1 rfl rfl rfl (fun va vn vc => ?_)
      refine AO.yld _ (Yld.indexVec Try.underlying26 Try.sizeOf92 rfl rfl rfl rfl (by rw [nfill_length (by omega)]; exact hk)) rfl rfl rfl ?_
      refine AO.store Try.sizeOf92 rfl rfl rfl rfl rfl (store_el rfl (nfill_get hJ.2 hk) rfl rfl) ?_
      refine AO.nil ?_
      refine AC.mark ?_
      refine AC.region ?_
      refine AO.yld _ (Yld.move rfl) rfl rfl rfl ?_
      refine AO.yld _ (Yld.add rfl rfl (by omega) (by omega)) rfl rfl rfl ?_
      refine AO.yld _ (Yld.assign rfl) rfl rfl rfl ?_
      refine AO.nil ?_
      refine AC.back ⟨k + 1, vs ++ [.slice va vn vc], ?_, ?_, ⟨?_, ?_, trivial⟩, ⟨?_, ?_, trivial⟩, ⟨rfl, rfl, rfl, trivial⟩, ⟨rfl, trivial⟩⟩
      · exact ⟨hk, by simp [hJ.2]⟩
      · omega
      · rfl
      · rfl
      · rw [← nfill_set hJ.2 hx]; rfl
      · rw [← pool_snoc hJ.2 hx]; rfl
    · -- c11 False
      obtain rfl : k = xs.length := by have := ge_of_decM c11; omega
      refine AC.exit rfl ?_
      refine AC.seq ?_
      refine AC.region ?_
      refine AO.yld _ (Yld.move rfl) rfl rfl rfl ?_
      refine AO.yld _ (Yld.assign rfl) rfl rfl rfl ?_
      refine AO.nil ?_
      refine AC.nestJoin 0 1 (cs := xs.map verC) (ins := xs.map verI) (hV := ver_nest) (vs := vs) rfl rfl rfl (nfill_end hJ.2) (by rw [List.take_of_length_le (Nat.le_refl _)]) (by simp; exact hJ.2) (by simp) ?_
      refine FnE.ret () [0] [0] Try.results15 (RVs.cons (RV.tmp rfl) RVs.nil) rfl rfl rfl ?_ ?_ ⟨⟨_, rfl, ?_⟩, trivial⟩
      · -- holds
        trivial
      · -- value
        rfl
      · -- thing 0
        rfl

theorem laws_markVersionS_c {xs : List Ver} {k0 : Int} (hg : VersGood xs) (h0 : 0 ≤ k0) (h1 : k0 ≤ 100000000000) :
    FnE (α := Unit) Try.prog 30 [.h 0, .p (.v (.int .i64 k0))] [(0, .cust (nestC 92 4 137 2 (xs.map verC) (xs.map verI) (xs.map encVer) ver_nest))] [0] (fun _ => True) (fun _ => .p (.v (.int .i64 (mkK k0 (stL xs))))) (fun _ => [(0, .cust (nestC 92 4 137 2 (mkC k0 (stL xs)) (mkI k0 (stL xs)) (mkV k0 (stL xs)) rfl))]) := by
  have hn := hg.1
  refine FnE.intro Try.func30 rfl Try.ntmps30 rfl rfl (fun w0 F0 η φ w => ?_)
  refine AC.seq ?_
  refine AC.region ?_
  refine AO.yld _ (Yld.assign rfl) rfl rfl rfl ?_
  refine AO.nil ?_
  refine AC.seq ?_
  refine AC.seq ?_
  refine AC.region ?_
  refine AO.yld _ (Yld.assign rfl) rfl rfl rfl ?_
  refine AO.nil ?_
  refine AC.block ?_
  refine AC.nestSplit 0 1 rfl rfl (fun vs hvl hil => ?_)
  refine AC.loopC [(0, _), (4, _)] [(900, _)] (fun (k : Nat) => [(5, .p (.v (.int .i64 (k : Int)))), (1, .p (.v (.int .i64 (markK k0 xs k))))]) (fun (k : Nat) => [(0, .vec 92 4 (rowsV (markC k0 xs k) vs)), (1, .cust (poolC 137 2 (poolL vs (markI k0 xs k))))]) (fun (k : Nat) => k ≤ xs.length) (fun (k : Nat) => xs.length - k) 0 ⟨rfl, rfl, trivial⟩ ⟨rfl, trivial⟩ ⟨rfl, by rw [markK_zero]; rfl, trivial⟩ ⟨by rw [markC_zero]; rfl, by rw [markI_zero]; rfl, trivial⟩ ?_ (fun k hJ => ?_)
  · exact Nat.zero_le _
  · -- round
    refine AC.seq ?_
    refine AC.seq ?_
    refine AC.region ?_
    refine AO.yld _ (Yld.move rfl) rfl rfl rfl ?_
    refine AO.yld _ (Yld.move rfl) rfl rfl rfl ?_
    refine AO.yld _ (Yld.len Try.underlying26 rfl rfl) rfl rfl rfl ?_
    refine AO.yld _ (Yld.int rfl rfl rfl) rfl rfl rfl ?_
    refine AO.nil ?_
    refine AC.cond _ rfl (fun c9 => ?_) (fun c9 => ?_)
    · -- c9 True
      have hvl2 : vs.length = xs.length := by simpa using hvl
      have hk : k < xs.length := by have h := c9; rw [markRows_len hvl2 (by omega)] at h; simpa using h
      obtain ⟨x, hx⟩ := get_some hk
      obtain ⟨v, hv⟩ := get_some (xs := vs) (k := k) (by omega)
      obtain ⟨g1, g2, g3⟩ := hg.2 x (List.mem_of_getElem? hx)
      have hkl := markK_lim (k0 := k0) (k := k) hg
      have e3 : markK k0 xs k + 1 + 1 + 1 = markK k0 xs k + 3 := by omega
      have e2 : markK k0 xs k + 1 + 1 = markK k0 xs k + 2 := by omega
      refine AC.skip ?_
      refine AC.seq ?_
      refine AC.block ?_
      refine AC.seq ?_
      refine AC.region ?_
      refine AO.yld _ (Yld.move rfl) rfl rfl rfl ?_
      refine AO.yld _ (Yld.move rfl) rfl rfl rfl ?_
      refine AO.yld _ (Yld.move rfl) rfl rfl rfl ?_
      refine AO.yld _ (Yld.indexVec Try.underlying26 Try.sizeOf92 rfl rfl rfl rfl (by first | (rw [markRows_len (by omega) (by omega)]; exact hk) | (simp only [List.length_set]; rw [markRows_len (by omega) (by omega)]; exact hk))) rfl rfl rfl ?_
      refine AO.yld _ (Yld.fieldAddr Try.underlying92 rfl rfl Try.sizeOf2 rfl (behind_el rfl (markRows_get hx hv)) rfl) rfl rfl rfl ?_
      refine AO.store Try.sizeOf2 rfl rfl rfl rfl rfl (store_el rfl (markRows_get hx hv) rfl rfl) ?_
      refine AO.nil ?_
      refine AC.seq ?_
      refine AC.region ?_
      refine AO.yld _ (Yld.move rfl) rfl rfl rfl ?_
      refine AO.yld _ (Yld.add rfl rfl (by omega) (by omega)) rfl rfl rfl ?_
      refine AO.yld _ (Yld.assign rfl) rfl rfl rfl ?_
      refine AO.nil ?_
      refine AC.seq ?_
      refine AC.region ?_
      refine AO.yld _ (Yld.move rfl) rfl rfl rfl ?_
      refine AO.yld _ (Yld.move rfl) rfl rfl rfl ?_
      refine AO.yld _ (Yld.move rfl) rfl rfl rfl ?_
      refine AO.yld _ (Yld.indexVec Try.underlying26 Try.sizeOf92 rfl rfl rfl rfl (by first | (rw [markRows_len (by omega) (by omega)]; exact hk) | (simp only [List.length_set]; rw [markRows_len (by omega) (by omega)]; exact hk))) rfl rfl rfl ?_
      refine AO.yld _ (Yld.fieldAddr Try.underlying92 rfl rfl Try.sizeOf2 rfl (behind_el rfl (set_get (by first | (rw [markRows_len (by omega) (by omega)]; exact hk) | (simp only [List.length_set]; rw [markRows_len (by omega) (by omega)]; exact hk)))) rfl) rfl rfl rfl ?_
      refine AO.store Try.sizeOf2 rfl rfl rfl rfl rfl (store_el rfl (set_get (by first | (rw [markRows_len (by omega) (by omega)]; exact hk) | (simp only [List.length_set]; rw [markRows_len (by omega) (by omega)]; exact hk))) rfl rfl) ?_
      refine AO.nil ?_
      refine AC.seq ?_
      refine AC.region ?_
      refine AO.yld _ (Yld.move rfl) rfl rfl rfl ?_
      refine AO.yld _ (Yld.add rfl rfl (by omega) (by omega)) rfl rfl rfl ?_
      refine AO.yld _ (Yld.assign rfl) rfl rfl rfl ?_
      refine AO.nil ?_
      refine AC.seq ?_
      refine AC.region ?_
      refine AO.yld _ (Yld.move rfl) rfl rfl rfl ?_
      refine AO.yld _ (Yld.move rfl) rfl rfl rfl ?_
      refine AO.yld _ (Yld.move rfl) rfl rfl rfl ?_
      refine AO.yld _ (Yld.call rfl rfl Try.call86 rfl rfl rfl (laws_markText_c (by omega)) rfl) rfl rfl rfl ?_
      refine AO.yld _ (Yld.indexVec Try.underlying26 Try.sizeOf92 rfl rfl rfl rfl (by first | (rw [markRows_len (by omega) (by omega)]; exact hk) | (simp only [List.length_set]; rw [markRows_len (by omega) (by omega)]; exact hk))) rfl rfl rfl ?_
      refine AO.yld _ (Yld.fieldAddr Try.underlying92 rfl rfl Try.sizeOf9 rfl (behind_el rfl (set_get (by first | (rw [markRows_len (by omega) (by omega)]; exact hk) | (simp only [List.length_set]; rw [markRows_len (by omega) (by omega)]; exact hk)))) rfl) rfl rfl rfl ?_
      refine AO.store Try.sizeOf9 rfl rfl rfl rfl rfl (store_el rfl (set_get (by first | (rw [markRows_len (by omega) (by omega)]; exact hk) | (simp only [List.length_set]; rw [markRows_len (by omega) (by omega)]; exact hk))) rfl rfl) ?_
      refine AO.nil ?_
      refine AC.seq ?_
      refine AC.region ?_
      refine AO.yld _ (Yld.move rfl) rfl rfl rfl ?_
      refine AO.yld _ (Yld.add rfl rfl (by omega) (by omega)) rfl rfl rfl ?_
      refine AO.yld _ (Yld.assign rfl) rfl rfl rfl ?_
      refine AO.nil ?_
      refine AC.region ?_
      refine AO.yld _ (Yld.move rfl) rfl rfl rfl ?_
      refine AO.yld _ (Yld.move rfl) rfl rfl rfl ?_
      refine AO.yld _ (Yld.indexVec Try.underlying26 Try.sizeOf92 rfl rfl rfl rfl (by first | (rw [markRows_len (by omega) (by omega)]; exact hk) | (simp only [List.length_set]; rw [markRows_len (by omega) (by omega)]; exact hk))) rfl rfl rfl ?_
      refine AO.yld _ (Yld.fieldAddr Try.underlying92 rfl rfl Try.sizeOf68 rfl (behind_el rfl (set_get (by first | (rw [markRows_len (by omega) (by omega)]; exact hk) | (simp only [List.length_set]; rw [markRows_len (by omega) (by omega)]; exact hk)))) rfl) rfl rfl rfl ?_
      refine AO.yld _ (Yld.load Try.isAgg68 rfl (Eq.trans (behind_el rfl (set_get (by first | (rw [markRows_len (by omega) (by omega)]; exact hk) | (simp only [List.length_set]; rw [markRows_len (by omega) (by omega)]; exact hk)))) rfl)) rfl rfl rfl ?_
      refine AO.poolTake 38 1 2 rfl rfl (markPool_get hx hv) rfl ?_
      refine AO.yld _ (Yld.move rfl) rfl rfl rfl ?_
      refine AO.callW (wantedN rfl) [2] [0] [0] rfl rfl Try.call52 rfl ((laws_markSettingS_c (xs := x.state) (k0 := markK k0 xs k + 1 + 1 + 1) (by omega) (by omega) (by omega)).at v) (.own rfl) rfl (fun _ => rfl) ⟨rfl, trivial⟩ rfl (fun _ => rfl) (fun _ => rfl) (fun _ _ => ?_)
      refine AO.poolGive 1 2 rfl rfl rfl (pool_get_set (by rw [markPool_len (by omega) (by omega)]; exact hk)) ?_
      refine AO.yld _ (Yld.assign rfl) rfl rfl rfl ?_
      refine AO.nil ?_
      refine AC.mark ?_
      refine AC.region ?_
      refine AO.yld _ (Yld.move rfl) rfl rfl rfl ?_
      refine AO.yld _ (Yld.add rfl rfl (by omega) (by omega)) rfl rfl rfl ?_
      refine AO.yld _ (Yld.assign rfl) rfl rfl rfl ?_
      refine AO.nil ?_
      refine AC.back ⟨k + 1, ?_, ?_, ⟨?_, ?_, trivial⟩, ⟨?_, ?_, trivial⟩, ⟨rfl, rfl, trivial⟩, ⟨rfl, trivial⟩⟩
      · exact hk
      · omega
      · rfl
      · show some (AV.p (PV.v (Value.int IntKind.i64 _))) = _; rw [markK_succ hx, ← e3]; try rfl
      · try simp only [List.set_set]
        rw [← markRows_set hx hv, ← e2]; rfl
      · rw [← markPool_set hx hv, ← e3]; rfl
    · -- c9 False
      have hvl2 : vs.length = xs.length := by simpa using hvl
      obtain rfl : k = xs.length := by have h := c9; rw [markRows_len hvl2 (by omega)] at h; simp at h; omega
      refine AC.exit rfl ?_
      refine AC.seq ?_
      refine AC.region ?_
      refine AO.yld _ (Yld.move rfl) rfl rfl rfl ?_
      refine AO.yld _ (Yld.assign rfl) rfl rfl rfl ?_
      refine AO.nil ?_
      refine AC.nestJoin 0 1 (cs := mkC k0 (stL xs)) (ins := mkI k0 (stL xs)) (hV := rfl) (vs := vs) rfl rfl rfl (by rw [markC_end]) (by rw [markI_end]) (by rw [mkC_length, stL_len]; omega) (by rw [mkI_length, mkC_length]) ?_
      refine FnE.ret () [0] [0] Try.results30 (RVs.cons (RV.tmp rfl) RVs.nil) rfl rfl rfl ?_ ?_ ⟨⟨_, rfl, ?_⟩, trivial⟩
      · -- holds
        trivial
      · -- value
        first | rfl | (simp only [markK, List.take_length]; rfl)
      · -- thing 0
        rfl

theorem indexFuncVersion_c {xs : List Ver} {f : FuncId} {caps : List PV} {p : Ver → Bool} (hn : xs.length ≤ 1048576) (hf : Enters Try.prog f) (hp : ∀ x ∈ xs, Pure Try.prog f (.agg (encVer x) :: caps) (.v (.bool (p x)))) :
    Pure Try.prog 133 [.sl 4 (xs.map encVer), .clo f caps] (.v (.int .i64 (idxOf p xs))) := by
  refine Pure.intro Try.func133 rfl Try.ntmps133 rfl rfl (fun w => ?_)
  refine AC.seq ?_
  refine AC.region ?_
  refine AO.yld _ (Yld.assign rfl) rfl rfl rfl ?_
  refine AO.nil ?_
  refine AC.seq ?_
  refine AC.seq ?_
  refine AC.region ?_
  refine AO.yld _ (Yld.move rfl) rfl rfl rfl ?_
  refine AO.yld _ (Yld.len Try.underlying26 rfl rfl) rfl rfl rfl ?_
  refine AO.yld _ (Yld.move rfl) rfl rfl rfl ?_
  refine AO.nil ?_
  refine AC.block ?_
  refine AC.loopC [(0, _), (1, _), (7, _)] [] (fun (k : Nat) => [(8, .p (.v (.int .i64 (k : Int))))]) (fun (k : Nat) => []) (fun (k : Nat) => k ≤ xs.length ∧ anyTo p xs k = false) (fun (k : Nat) => xs.length - k) 0 ⟨rfl, rfl, rfl, trivial⟩ trivial ⟨rfl, trivial⟩ trivial ?_ (fun k hJ => ?_)
  · exact ⟨Nat.zero_le _, rfl⟩
  · -- round
    refine AC.seq ?_
    refine AC.region ?_
    refine AO.yld _ (Yld.int rfl rfl rfl) rfl rfl rfl ?_
    refine AO.nil ?_
    refine AC.seq ?_
    refine AC.cond _ rfl (fun c9 => ?_) (fun c9 => ?_)
    · -- c9 True
      have hk := lt_of_decM c9
      obtain ⟨x, hx⟩ := get_some hk
      have hrow := map_row (enc := encVer) hx
      refine AC.skip ?_
      refine AC.seq ?_
      refine AC.block ?_
      refine AC.seq ?_
      refine AC.region ?_
      refine AO.yld _ (Yld.move rfl) rfl rfl rfl ?_
      refine AO.yld _ (Yld.assign rfl) rfl rfl rfl ?_
      refine AO.nil ?_
      refine AC.seq ?_
      refine AC.region ?_
      refine AO.yld _ (Yld.move rfl) rfl rfl rfl ?_
      refine AO.yld _ (Yld.move rfl) rfl rfl rfl ?_
      refine AO.yld _ (Yld.move rfl) rfl rfl rfl ?_
      refine AO.yld _ (Yld.indexSl Try.underlying26 Try.sizeOf92 rfl rfl hrow rfl) rfl rfl rfl ?_
      refine AO.yld _ (Yld.loadAgg Try.isAgg92 Try.sizeOf92 rfl rfl rfl rfl) rfl rfl rfl ?_
      refine AO.yld _ (Yld.call rfl rfl hf rfl rfl (viewL_p _) (hp x (List.mem_of_getElem? hx)) rfl) rfl rfl rfl ?_
      refine AO.nil ?_
      refine AC.cond _ rfl (fun c16 => ?_) (fun c16 => ?_)
      · -- c16 True
        refine AC.seq ?_
        refine AC.region ?_
        refine AO.yld _ (Yld.move rfl) rfl rfl rfl ?_
        refine AO.yld _ (Yld.assign rfl) rfl rfl rfl ?_
        refine AO.nil ?_
        refine Pure.ret Try.results133 (RVs.cons (RV.tmp rfl) RVs.nil) rfl ?_
        first
          | exact ci (idx_hit hJ.2 hx (by simpa using c16))
          | exact ci (idx_miss hJ.2)
      · -- c16 False
        refine AC.skip ?_
        refine AC.mark ?_
        refine AC.region ?_
        refine AO.yld _ (Yld.add rfl rfl (by omega) (by omega)) rfl rfl rfl ?_
        refine AO.yld _ (Yld.move rfl) rfl rfl rfl ?_
        refine AO.nil ?_
        refine AC.back ⟨k + 1, ?_, ?_, ⟨?_, trivial⟩, trivial, ⟨rfl, rfl, rfl, trivial⟩, trivial⟩
        · exact ⟨hk, by rw [anyTo_succ hx, hJ.2]; simpa using c16⟩
        · omega
        · rfl
    · -- c9 False
      obtain rfl : k = xs.length := by have := ge_of_decM c9; omega
      refine AC.exit rfl ?_
      refine AC.seq ?_
      refine AC.region ?_
      refine AO.yld _ (Yld.assign rfl) rfl rfl rfl ?_
      refine AO.nil ?_
      refine Pure.ret Try.results133 (RVs.cons (RV.tmp rfl) RVs.nil) rfl ?_
      first
        | exact ci (idx_hit hJ.2 hx (by simpa using c16))
        | exact ci (idx_miss hJ.2)

theorem containsFuncVersion_c {xs : List Ver} {f : FuncId} {caps : List PV} {p : Ver → Bool} (hn : xs.length ≤ 1048576) (hf : Enters Try.prog f) (hp : ∀ x ∈ xs, Pure Try.prog f (.agg (encVer x) :: caps) (.v (.bool (p x)))) :
    Pure Try.prog 89 [.sl 4 (xs.map encVer), .clo f caps] (.v (.bool (xs.any p))) := by
  refine Pure.intro Try.func89 rfl Try.ntmps89 rfl rfl (fun w => ?_)
  refine AC.seq ?_
  refine AC.region ?_
  refine AO.yld _ (Yld.assign rfl) rfl rfl rfl ?_
  refine AO.nil ?_
  refine AC.seq ?_
  refine AC.region ?_
  refine AO.yld _ (Yld.move rfl) rfl rfl rfl ?_
  refine AO.yld _ (Yld.move rfl) rfl rfl rfl ?_
  refine AO.yld _ (Yld.call rfl rfl Try.call133 rfl rfl rfl (indexFuncVersion_c (by first | assumption | omega) hf hp) rfl) rfl rfl rfl ?_
  refine AO.yld _ (Yld.int rfl rfl rfl) rfl rfl rfl ?_
  refine AO.yld _ (Yld.assign rfl) rfl rfl rfl ?_
  refine AO.nil ?_
  refine Pure.ret Try.results89 (RVs.cons (RV.tmp rfl) RVs.nil) rfl ?_
  exact cb idx_any.symm

theorem headsOf1_c {x v : Ver} :
    Pure Try.prog 90 [.agg (encVer x), .ptr (encVer v)] (.v (.bool (x.parent == v.number))) := by
  refine Pure.intro Try.func90 rfl Try.ntmps90 rfl rfl (fun w => ?_)
  refine AC.seq ?_
  refine AC.region ?_
  refine AO.box 0 rfl rfl rfl rfl rfl ?_
  refine AO.yld _ (Yld.assign rfl) rfl rfl rfl ?_
  refine AO.nil ?_
  refine AC.seq ?_
  refine AC.region ?_
  refine AO.yld _ (Yld.fieldAddr Try.underlying92 rfl rfl Try.sizeOf2 rfl rfl rfl) rfl rfl rfl ?_
  refine AO.yld _ (Yld.load Try.isAgg2 rfl rfl) rfl rfl rfl ?_
  refine AO.yld _ (Yld.fieldAddr Try.underlying92 rfl rfl Try.sizeOf2 rfl rfl rfl) rfl rfl rfl ?_
  refine AO.yld _ (Yld.load Try.isAgg2 rfl rfl) rfl rfl rfl ?_
  refine AO.yld _ (Yld.int rfl rfl rfl) rfl rfl rfl ?_
  refine AO.yld _ (Yld.assign rfl) rfl rfl rfl ?_
  refine AO.nil ?_
  refine Pure.ret Try.results90 (RVs.cons (RV.tmp rfl) RVs.nil) rfl ?_
  refine cb ?_; by_cases h : x.parent = v.number <;> simp [h]

theorem impl_HeadsOf_c {xs : List Ver} (hg : VersGood xs) :
    FnE (α := Unit) Try.prog 32 [.p (.sl 4 (xs.map encVer))] [] [] (fun _ => True) (fun _ => .tup [.h 0, .p (.v (.int .i64 (headsOf xs).2))]) (fun _ => [(0, .vec 2 1 ((headsOf xs).1.map encI))]) := by
  have hn := hg.1
  have hM : (xs.map encVer).length = xs.length := List.length_map ..
  refine FnE.intro Try.func32 rfl Try.ntmps32 rfl rfl (fun w0 F0 η φ w => ?_)
  refine AC.seq ?_
  refine AC.region ?_
  refine AO.yld _ (Yld.assign rfl) rfl rfl rfl ?_
  refine AO.yld _ (Yld.assign rfl) rfl rfl rfl ?_
  refine AO.nil ?_
  refine AC.seq ?_
  refine AC.seq ?_
  refine AC.region ?_
  refine AO.yld _ (Yld.move rfl) rfl rfl rfl ?_
  refine AO.yld _ (Yld.call rfl rfl Try.call70 rfl rfl rfl (impl_ValidHistory_c (by assumption)) rfl) rfl rfl rfl ?_
  refine AO.yld _ (Yld.not rfl) rfl rfl rfl ?_
  refine AO.nil ?_
  refine AC.cond _ rfl (fun c9 => ?_) (fun c9 => ?_)
  · -- c9 True
    refine AC.seq ?_
    refine AC.region ?_
    refine AO.yld _ (Yld.assign rfl) rfl rfl rfl ?_
    refine AO.yld _ (Yld.assign rfl) rfl rfl rfl ?_
    refine AO.nil ?_
    refine AC.nilVec 2 0 2 1 rfl rfl ?_
    refine FnE.ret () [0] [0] Try.results32 (RVs.cons (RV.tmp rfl) (RVs.cons (RV.tmp rfl) RVs.nil)) rfl rfl rfl ?_ ?_ ⟨⟨_, rfl, ?_⟩, trivial⟩
    · -- holds
      trivial
    · -- value
      refine tupE ?_; first | (simp_all [headsOf]; done) | (simp only [headsOf, if_pos hok])
    · -- thing 0
      refine vecE ?_; first | (simp_all [headsOf]; done) | (simp only [headsOf, if_pos hok, headsTo_end])
  · -- c9 False
    have hok : okVers xs = true := by simpa using c9
    refine AC.skip ?_
    refine AC.seq ?_
    refine AC.region ?_
    refine AO.yld _ (Yld.assign rfl) rfl rfl rfl ?_
    refine AO.nil ?_
    refine AC.seq ?_
    refine AC.seq ?_
    refine AC.region ?_
    refine AO.yld _ (Yld.move rfl) rfl rfl rfl ?_
    refine AO.yld _ (Yld.len Try.underlying26 rfl rfl) rfl rfl rfl ?_
    refine AO.yld _ (Yld.move rfl) rfl rfl rfl ?_
    refine AO.nil ?_
    refine AC.block ?_
    refine AC.nilVec 4 0 2 1 rfl rfl ?_
    refine AC.loopC [(0, _), (2, _), (3, _), (10, _), (11, _)] [(900, _)] (fun (k : Nat) => [(12, .p (.v (.int .i64 (k : Int)))), (4, .h 0)]) (fun (k : Nat) => [(0, .vec 2 1 ((headsTo xs k).map encI))]) (fun (k : Nat) => k ≤ xs.length) (fun (k : Nat) => xs.length - k) 0 ⟨rfl, rfl, rfl, rfl, rfl, trivial⟩ ⟨rfl, trivial⟩ ⟨rfl, rfl, trivial⟩ ⟨rfl, trivial⟩ ?_ (fun k hJ => ?_)
    · exact Nat.zero_le _
    · -- round
      refine AC.seq ?_
      refine AC.region ?_
      refine AO.yld _ (Yld.int rfl rfl rfl) rfl rfl rfl ?_
      refine AO.nil ?_
      refine AC.seq ?_
      refine AC.cond _ rfl (fun c13 => ?_) (fun c13 => ?_)
      · -- c13 True
        have hk := lt_of_decM c13
        obtain ⟨x, hx⟩ := get_some hk
        have hrow := map_row (enc := encVer) hx
        refine AC.skip ?_
        refine AC.seq ?_
        refine AC.block ?_
        refine AC.seq ?_
        refine AC.region ?_
        refine AO.yld _ (Yld.indexSl Try.underlying26 Try.sizeOf92 rfl rfl hrow rfl) rfl rfl rfl ?_
        refine AO.yld _ (Yld.loadAgg Try.isAgg92 Try.sizeOf92 rfl rfl rfl rfl) rfl rfl rfl ?_
        refine AO.alloc 1 Try.zeroValue92 rfl rfl rfl ?_
        refine AO.store Try.sizeOf92 rfl rfl rfl rfl rfl rfl ?_
        refine AO.nil ?_
        refine AC.seq ?_
        refine AC.region ?_
        refine AO.yld _ (Yld.move rfl) rfl rfl rfl ?_
        refine AO.yld _ (Yld.makeFunc rfl) rfl rfl rfl ?_
        refine AO.yld _ (Yld.call rfl rfl Try.call89 rfl rfl rfl (containsFuncVersion_c (p := fun y => y.parent == x.number) (by omega) Try.call90 (fun y hy => headsOf1_c)) rfl) rfl rfl rfl ?_
        refine AO.yld _ (Yld.not rfl) rfl rfl rfl ?_
        refine AO.nil ?_
        refine AC.cond _ rfl (fun c19 => ?_) (fun c19 => ?_)
        · -- c19 True
          refine AC.region ?_
          refine AO.yld _ (Yld.move rfl) rfl rfl rfl ?_
          refine AO.yld _ (Yld.fieldAddr Try.underlying92 rfl rfl Try.sizeOf2 rfl rfl rfl) rfl rfl rfl ?_
          refine AO.yld _ (Yld.load Try.isAgg2 rfl rfl) rfl rfl rfl ?_
          refine AO.buildSlice (rows := [[_]]) 2 Try.underlying31 ty2 rfl rfl rfl rfl rfl rfl rfl rfl rfl ?_
          refine AO.append 0 Try.underlying31 ty2 rfl rfl rfl rfl rfl rfl rfl (by simp [pvOne]) (by have := headsTo_len xs k; simp only [List.length_map, List.length_cons, List.length_nil]; omega) (by have := headsTo_len xs k; simp only [List.length_map, List.length_cons, List.length_nil]; omega) rfl ?_
          refine AO.yld _ (Yld.assign rfl) rfl rfl rfl ?_
          refine AO.nil ?_
          refine AC.mark ?_
          refine AC.region ?_
          refine AO.yld _ (Yld.add rfl rfl (by omega) (by omega)) rfl rfl rfl ?_
          refine AO.yld _ (Yld.move rfl) rfl rfl rfl ?_
          refine AO.nil ?_
          refine AC.back ⟨k + 1, ?_, ?_, ⟨?_, ?_, trivial⟩, ⟨?_, trivial⟩, ⟨rfl, rfl, rfl, rfl, rfl, trivial⟩, ⟨rfl, trivial⟩⟩
          · exact hk
          · omega
          · rfl
          · rfl
          · first | (rw [headsTo_yes hx (by simpa [isHead] using c19), map_snoc]; rfl) | (rw [headsTo_no hx (by simpa [isHead] using c19)]; rfl)
        · -- c19 False
          refine AC.skip ?_
          refine AC.mark ?_
          refine AC.region ?_
          refine AO.yld _ (Yld.add rfl rfl (by omega) (by omega)) rfl rfl rfl ?_
          refine AO.yld _ (Yld.move rfl) rfl rfl rfl ?_
          refine AO.nil ?_
          refine AC.back ⟨k + 1, ?_, ?_, ⟨?_, ?_, trivial⟩, ⟨?_, trivial⟩, ⟨rfl, rfl, rfl, rfl, rfl, trivial⟩, ⟨rfl, trivial⟩⟩
          · exact hk
          · omega
          · rfl
          · rfl
          · first | (rw [headsTo_yes hx (by simpa [isHead] using c19), map_snoc]; rfl) | (rw [headsTo_no hx (by simpa [isHead] using c19)]; rfl)
      · -- c13 False
        obtain rfl : k = xs.length := by have := ge_of_decM c13; omega
        refine AC.exit rfl ?_
        refine AC.seq ?_
        refine AC.region ?_
        refine AO.yld _ (Yld.move rfl) rfl rfl rfl ?_
        refine AO.yld _ (Yld.assign rfl) rfl rfl rfl ?_
        refine AO.yld _ (Yld.assign rfl) rfl rfl rfl ?_
        refine AO.nil ?_
        refine FnE.ret () [0] [0] Try.results32 (RVs.cons (RV.tmp rfl) (RVs.cons (RV.tmp rfl) RVs.nil)) rfl rfl rfl ?_ ?_ ⟨⟨_, rfl, ?_⟩, trivial⟩
        · -- holds
          trivial
        · -- value
          refine tupE ?_; first | (simp_all [headsOf]; done) | (simp only [headsOf, if_pos hok])
        · -- thing 0
          refine vecE ?_; first | (simp_all [headsOf]; done) | (simp only [headsOf, if_pos hok, headsTo_end])

theorem spec_HeadsOf_c {xs : List Ver} (hg : VersGood xs) :
    FnE (α := Unit) Try.prog 31 [.p (.sl 4 (xs.map encVer))] [] [] (fun _ => True) (fun _ => .tup [.h 0, .p (.v (.int .i64 (headsOf xs).2))]) (fun _ => [(0, .vec 2 1 ((headsOf xs).1.map encI))]) := by
  have hn := hg.1
  have hM : (xs.map encVer).length = xs.length := List.length_map ..
  refine FnE.intro Try.func31 rfl Try.ntmps31 rfl rfl (fun w0 F0 η φ w => ?_)
  refine AC.seq ?_
  refine AC.region ?_
  refine AO.yld _ (Yld.assign rfl) rfl rfl rfl ?_
  refine AO.yld _ (Yld.assign rfl) rfl rfl rfl ?_
  refine AO.nil ?_
  refine AC.seq ?_
  refine AC.seq ?_
  refine AC.region ?_
  refine AO.yld _ (Yld.move rfl) rfl rfl rfl ?_
  refine AO.yld _ (Yld.call rfl rfl Try.call66 rfl rfl rfl (spec_l27Ok_c (by assumption)) rfl) rfl rfl rfl ?_
  refine AO.yld _ (Yld.not rfl) rfl rfl rfl ?_
  refine AO.nil ?_
  refine AC.cond _ rfl (fun c10 => ?_) (fun c10 => ?_)
  · -- c10 True
    refine AC.seq ?_
    refine AC.region ?_
    refine AO.yld _ (Yld.assign rfl) rfl rfl rfl ?_
    refine AO.yld _ (Yld.assign rfl) rfl rfl rfl ?_
    refine AO.nil ?_
    refine AC.nilVec 2 0 2 1 rfl rfl ?_
    refine FnE.ret () [0] [0] Try.results31 (RVs.cons (RV.tmp rfl) (RVs.cons (RV.tmp rfl) RVs.nil)) rfl rfl rfl ?_ ?_ ⟨⟨_, rfl, ?_⟩, trivial⟩
    · -- holds
      trivial
    · -- value
      refine tupE ?_; first | (simp_all [headsOf]; done) | (simp only [headsOf, if_pos hok])
    · -- thing 0
      refine vecE ?_; first | (simp_all [headsOf]; done) | (simp only [headsOf, if_pos hok, headsTo_end])
  · -- c10 False
    have hok : okVers xs = true := by simpa using c10
    refine AC.skip ?_
    refine AC.seq ?_
    refine AC.region ?_
    refine AO.buildSlice (rows := []) 0 Try.underlying31 ty2 rfl rfl rfl rfl rfl rfl rfl rfl rfl ?_
    refine AO.yld _ (Yld.assign rfl) rfl rfl rfl ?_
    refine AO.nil ?_
    refine AC.seq ?_
    refine AC.seq ?_
    refine AC.region ?_
    refine AO.yld _ (Yld.assign rfl) rfl rfl rfl ?_
    refine AO.nil ?_
    refine AC.block ?_
    refine AC.loopC [(0, _), (2, _), (3, _)] [(900, _)] (fun (k : Nat) => [(5, .p (.v (.int .i64 (k : Int)))), (4, .h 0)]) (fun (k : Nat) => [(0, .vec 2 1 ((headsTo xs k).map encI))]) (fun (k : Nat) => k ≤ xs.length) (fun (k : Nat) => xs.length - k) 0 ⟨rfl, rfl, rfl, trivial⟩ ⟨rfl, trivial⟩ ⟨rfl, rfl, trivial⟩ ⟨rfl, trivial⟩ ?_ (fun k hJ => ?_)
    · exact Nat.zero_le _
    · -- round
      refine AC.seq ?_
      refine AC.seq ?_
      refine AC.region ?_
      refine AO.yld _ (Yld.move rfl) rfl rfl rfl ?_
      refine AO.yld _ (Yld.move rfl) rfl rfl rfl ?_
      refine AO.yld _ (Yld.len Try.underlying26 rfl rfl) rfl rfl rfl ?_
      refine AO.yld _ (Yld.int rfl rfl rfl) rfl rfl rfl ?_
      refine AO.nil ?_
      refine AC.cond _ rfl (fun c15 => ?_) (fun c15 => ?_)
      · -- c15 True
        have hk := lt_of_decM c15
        obtain ⟨x, hx⟩ := get_some hk
        have hrow := map_row (enc := encVer) hx
        refine AC.skip ?_
        refine AC.seq ?_
        refine AC.block ?_
        refine AC.seq ?_
        refine AC.region ?_
        refine AO.yld _ (Yld.assign rfl) rfl rfl rfl ?_
        refine AO.nil ?_
        refine AC.seq ?_
        refine AC.seq ?_
        refine AC.region ?_
        refine AO.yld _ (Yld.assign rfl) rfl rfl rfl ?_
        refine AO.nil ?_
        refine AC.block ?_
        refine AC.loopC [(0, _), (2, _), (3, _), (4, _), (5, _)] [(0, _), (900, _)] (fun (j : Nat) => [(7, .p (.v (.int .i64 (j : Int)))), (6, .p (.v (.bool (allTo (fun y => y.parent != x.number) xs j))))]) (fun (j : Nat) => []) (fun (j : Nat) => j ≤ xs.length) (fun (j : Nat) => xs.length - j) 0 ⟨rfl, rfl, rfl, rfl, rfl, trivial⟩ ⟨rfl, rfl, trivial⟩ ⟨rfl, rfl, trivial⟩ trivial ?_ (fun j hI => ?_)
        · exact Nat.zero_le _
        · -- round
          refine AC.seq ?_
          refine AC.seq ?_
          refine AC.region ?_
          refine AO.yld _ (Yld.move rfl) rfl rfl rfl ?_
          refine AO.yld _ (Yld.move rfl) rfl rfl rfl ?_
          refine AO.yld _ (Yld.len Try.underlying26 rfl rfl) rfl rfl rfl ?_
          refine AO.yld _ (Yld.int rfl rfl rfl) rfl rfl rfl ?_
          refine AO.nil ?_
          refine AC.cond _ rfl (fun c21 => ?_) (fun c21 => ?_)
          · -- c21 True
            have hj := lt_of_decM c21
            obtain ⟨y, hy⟩ := get_some hj
            have hrowy := map_row (enc := encVer) hy
            refine AC.skip ?_
            refine AC.seq ?_
            refine AC.block ?_
            refine AC.draw (by kernel_rfl) (by kernel_rfl) ?_
            refine AO.yld _ (Yld.move rfl) rfl rfl rfl ?_
            refine AO.yld _ (Yld.move rfl) rfl rfl rfl ?_
            refine AO.splitAt 25 _ rfl (fun s25 => ?_) (fun s25 => ?_)
            · -- s25 True
              refine AO.yldG _ (Yld.move rfl) rfl rfl rfl rfl rfl ?_
              refine AO.yldG _ (Yld.move rfl) rfl rfl rfl rfl rfl ?_
              refine AO.yldG _ (Yld.indexSl Try.underlying26 Try.sizeOf92 rfl rfl hrowy rfl) rfl rfl rfl rfl rfl ?_
              refine AO.yldG _ (Yld.fieldAddr Try.underlying92 rfl rfl Try.sizeOf2 rfl rfl rfl) rfl rfl rfl rfl rfl ?_
              refine AO.yldG _ (Yld.load Try.isAgg2 rfl rfl) rfl rfl rfl rfl rfl ?_
              refine AO.yldG _ (Yld.move rfl) rfl rfl rfl rfl rfl ?_
              refine AO.yldG _ (Yld.move rfl) rfl rfl rfl rfl rfl ?_
              refine AO.yldG _ (Yld.indexSl Try.underlying26 Try.sizeOf92 rfl rfl hrow rfl) rfl rfl rfl rfl rfl ?_
              refine AO.yldG _ (Yld.fieldAddr Try.underlying92 rfl rfl Try.sizeOf2 rfl rfl rfl) rfl rfl rfl rfl rfl ?_
              refine AO.yldG _ (Yld.load Try.isAgg2 rfl rfl) rfl rfl rfl rfl rfl ?_
              refine AO.yldG _ (Yld.int rfl rfl rfl) rfl rfl rfl rfl rfl ?_
              refine AO.yld _ (Yld.pickT rfl rfl) rfl rfl rfl ?_
              refine AO.yld _ (Yld.assign rfl) rfl rfl rfl ?_
              refine AO.nil ?_
              refine AC.mark ?_
              refine AC.region ?_
              refine AO.yld _ (Yld.move rfl) rfl rfl rfl ?_
              refine AO.yld _ (Yld.add rfl rfl (by omega) (by omega)) rfl rfl rfl ?_
              refine AO.yld _ (Yld.assign rfl) rfl rfl rfl ?_
              refine AO.nil ?_
              refine AC.back ⟨j + 1, ?_, ?_, ⟨?_, ?_, trivial⟩, trivial, ⟨rfl, rfl, rfl, rfl, rfl, trivial⟩, ⟨rfl, rfl, trivial⟩⟩
              · exact hj
              · omega
              · rfl
              · show some (AV.p (PV.v (Value.bool _))) = _; rw [allTo_succ hy]; first | rfl | (simp_all; done)
            · -- s25 False
              refine AO.skipT rfl rfl rfl rfl rfl ?_
              refine AO.skipT rfl rfl rfl rfl rfl ?_
              refine AO.skipT rfl rfl rfl rfl rfl ?_
              refine AO.skipT rfl rfl rfl rfl rfl ?_
              refine AO.skipT rfl rfl rfl rfl rfl ?_
              refine AO.skipT rfl rfl rfl rfl rfl ?_
              refine AO.skipT rfl rfl rfl rfl rfl ?_
              refine AO.skipT rfl rfl rfl rfl rfl ?_
              refine AO.skipT rfl rfl rfl rfl rfl ?_
              refine AO.skipT rfl rfl rfl rfl rfl ?_
              refine AO.skipT rfl rfl rfl rfl rfl ?_
              refine AO.yld _ (Yld.pickF rfl rfl) rfl rfl rfl ?_
              refine AO.yld _ (Yld.assign rfl) rfl rfl rfl ?_
              refine AO.nil ?_
              refine AC.mark ?_
              refine AC.region ?_
              refine AO.yld _ (Yld.move rfl) rfl rfl rfl ?_
              refine AO.yld _ (Yld.add rfl rfl (by omega) (by omega)) rfl rfl rfl ?_
              refine AO.yld _ (Yld.assign rfl) rfl rfl rfl ?_
              refine AO.nil ?_
              refine AC.back ⟨j + 1, ?_, ?_, ⟨?_, ?_, trivial⟩, trivial, ⟨rfl, rfl, rfl, rfl, rfl, trivial⟩, ⟨rfl, rfl, trivial⟩⟩
              · exact hj
              · omega
              · rfl
              · show some (AV.p (PV.v (Value.bool _))) = _; rw [allTo_succ hy]; first | rfl | (simp_all; done)
          · -- c21 False
            obtain rfl : j = xs.length := by have := ge_of_decM c21; omega
            refine AC.exit rfl ?_
            refine AC.seq ?_
            refine AC.region ?_
            refine AO.yld _ (Yld.move rfl) rfl rfl rfl ?_
            refine AO.nil ?_
            refine AC.cond _ rfl (fun c38 => ?_) (fun c38 => ?_)
            · -- c38 True
              refine AC.region ?_
              refine AO.yld _ (Yld.move rfl) rfl rfl rfl ?_
              refine AO.yld _ (Yld.move rfl) rfl rfl rfl ?_
              refine AO.yld _ (Yld.move rfl) rfl rfl rfl ?_
              refine AO.yld _ (Yld.indexSl Try.underlying26 Try.sizeOf92 rfl rfl hrow rfl) rfl rfl rfl ?_
              refine AO.yld _ (Yld.fieldAddr Try.underlying92 rfl rfl Try.sizeOf2 rfl rfl rfl) rfl rfl rfl ?_
              refine AO.yld _ (Yld.load Try.isAgg2 rfl rfl) rfl rfl rfl ?_
              refine AO.buildSlice (rows := [[_]]) 1 Try.underlying31 ty2 rfl rfl rfl rfl rfl rfl rfl rfl rfl ?_
              refine AO.append 0 Try.underlying31 ty2 rfl rfl rfl rfl rfl rfl rfl (by simp [pvOne]) (by have := headsTo_len xs k; simp only [List.length_map, List.length_cons, List.length_nil]; omega) (by have := headsTo_len xs k; simp only [List.length_map, List.length_cons, List.length_nil]; omega) rfl ?_
              refine AO.yld _ (Yld.assign rfl) rfl rfl rfl ?_
              refine AO.nil ?_
              refine AC.mark ?_
              refine AC.region ?_
              refine AO.yld _ (Yld.move rfl) rfl rfl rfl ?_
              refine AO.yld _ (Yld.add rfl rfl (by omega) (by omega)) rfl rfl rfl ?_
              refine AO.yld _ (Yld.assign rfl) rfl rfl rfl ?_
              refine AO.nil ?_
              refine AC.back ⟨k + 1, ?_, ?_, ⟨?_, ?_, trivial⟩, ⟨?_, trivial⟩, ⟨rfl, rfl, rfl, trivial⟩, ⟨rfl, trivial⟩⟩
              · exact hk
              · omega
              · rfl
              · rfl
              · first | (rw [headsTo_yes hx (by rw [← head_all]; exact c38), map_snoc]; rfl) | (rw [headsTo_no hx (by rw [← head_all]; exact c38)]; rfl)
            · -- c38 False
              refine AC.skip ?_
              refine AC.mark ?_
              refine AC.region ?_
              refine AO.yld _ (Yld.move rfl) rfl rfl rfl ?_
              refine AO.yld _ (Yld.add rfl rfl (by omega) (by omega)) rfl rfl rfl ?_
              refine AO.yld _ (Yld.assign rfl) rfl rfl rfl ?_
              refine AO.nil ?_
              refine AC.back ⟨k + 1, ?_, ?_, ⟨?_, ?_, trivial⟩, ⟨?_, trivial⟩, ⟨rfl, rfl, rfl, trivial⟩, ⟨rfl, trivial⟩⟩
              · exact hk
              · omega
              · rfl
              · rfl
              · first | (rw [headsTo_yes hx (by rw [← head_all]; exact c38), map_snoc]; rfl) | (rw [headsTo_no hx (by rw [← head_all]; exact c38)]; rfl)
      · -- c15 False
        obtain rfl : k = xs.length := by have := ge_of_decM c15; omega
        refine AC.exit rfl ?_
        refine AC.seq ?_
        refine AC.region ?_
        refine AO.yld _ (Yld.move rfl) rfl rfl rfl ?_
        refine AO.yld _ (Yld.assign rfl) rfl rfl rfl ?_
        refine AO.yld _ (Yld.assign rfl) rfl rfl rfl ?_
        refine AO.nil ?_
        refine FnE.ret () [0] [0] Try.results31 (RVs.cons (RV.tmp rfl) (RVs.cons (RV.tmp rfl) RVs.nil)) rfl rfl rfl ?_ ?_ ⟨⟨_, rfl, ?_⟩, trivial⟩
        · -- holds
          trivial
        · -- value
          refine tupE ?_; first | (simp_all [headsOf]; done) | (simp only [headsOf, if_pos hok])
        · -- thing 0
          refine vecE ?_; first | (simp_all [headsOf]; done) | (simp only [headsOf, if_pos hok, headsTo_end])

end Go.Proofs.Ytiilobkfonjlhaa
