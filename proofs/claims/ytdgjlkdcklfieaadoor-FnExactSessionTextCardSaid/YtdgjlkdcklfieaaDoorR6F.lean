/- Contracts of functions of the program, each by a walk of its text in the calculus V. -/
import Derived.Test.YtdgjlkdcklfieaaDoorR6C
import Derived.Test.YtdgjlkdcklfieaaDoorD39
import Derived.Test.YtdgjlkdcklfieaaDoorV26
set_option linter.all false
set_option linter.unusedSimpArgs false
set_option linter.unnecessarySimpa false
set_option linter.unusedVariables false
namespace Go.Proofs.YtdgjlkdcklfieaaDoor
open Go Go.V
theorem ty9 : TyIs Tryd.prog 9 (.string ⟨#[]⟩) 1 16 := by unfold TyIs; kernel_rfl

theorem spec_l01List_c {l : List Int} (hn : l.length ≤ 64) (hb : ∀ n ∈ l, -1000000000000 ≤ n ∧ n ≤ 1000000000000) :
    Pure Tryd.prog 155 [.sl 1 (l.map encI)] (.v (str (listD l))) := by
  have hM : (l.map encI).length = l.length := List.length_map ..
  have hb2 : ∀ n ∈ l, n.natAbs < 1000000000000000000 := fun n h => by have := hb n h; omega
  refine Pure.intro Tryd.func155 rfl Tryd.ntmps155 rfl rfl (fun w => ?_)
  refine AC.seq ?_
  refine AC.region ?_
  refine AO.yld _ (Yld.assign rfl) rfl rfl rfl ?_
  refine AO.nil ?_
  refine AC.seq ?_
  refine AC.seq ?_
  refine AC.region ?_
  refine AO.yld _ (Yld.move rfl) rfl rfl rfl ?_
  refine AO.yld _ (Yld.len Tryd.underlying28 rfl rfl) rfl rfl rfl ?_
  refine AO.yld _ (Yld.int rfl rfl rfl) rfl rfl rfl ?_
  refine AO.nil ?_
  refine AC.cond _ rfl (fun c7 => ?_) (fun c7 => ?_)
  · -- c7 True
    have hz : l.length = 0 := by have h := c7; rw [hM] at h; simp at h; simpa using h
    refine AC.seq ?_
    refine AC.region ?_
    refine AO.yld _ (Yld.assign rfl) rfl rfl rfl ?_
    refine AO.nil ?_
    refine Pure.ret Tryd.results155 (RVs.cons (RV.tmp rfl) RVs.nil) rfl ?_
    first
      | (rw [listD_zero hz]; done)
      | (rw [listD_zero hz]; rfl)
      | (rw [listD_pos hz]; done)
      | (rw [listD_pos hz]; rfl)
  · -- c7 False
    have hz : ¬ l.length = 0 := by have h := c7; rw [hM] at h; simp at h; simpa using h
    refine AC.skip ?_
    refine AC.seq ?_
    refine AC.region ?_
    refine AO.yld _ (Yld.assign rfl) rfl rfl rfl ?_
    refine AO.nil ?_
    refine AC.seq ?_
    refine AC.seq ?_
    refine AC.region ?_
    refine AO.yld _ (Yld.assign rfl) rfl rfl rfl ?_
    refine AO.nil ?_
    refine AC.block ?_
    refine AC.loopC [(0, _), (2, _)] [] (fun (k : Nat) => [(4, .p (.v (.int .i64 (k : Int)))), (3, .p (.v (str (listTo l k))))]) (fun (k : Nat) => []) (fun (k : Nat) => k ≤ l.length) (fun (k : Nat) => l.length - k) 0 ⟨rfl, rfl, trivial⟩ trivial ⟨rfl, rfl, trivial⟩ trivial ?_ (fun k hJ => ?_)
    · exact Nat.zero_le _
    · -- round
      refine AC.seq ?_
      refine AC.seq ?_
      refine AC.region ?_
      refine AO.yld _ (Yld.move rfl) rfl rfl rfl ?_
      refine AO.yld _ (Yld.move rfl) rfl rfl rfl ?_
      refine AO.yld _ (Yld.len Tryd.underlying28 rfl rfl) rfl rfl rfl ?_
      refine AO.yld _ (Yld.int rfl rfl rfl) rfl rfl rfl ?_
      refine AO.nil ?_
      refine AC.cond _ rfl (fun c11 => ?_) (fun c11 => ?_)
      · -- c11 True
        have hk := lt_of_decM c11
        obtain ⟨n, hx⟩ := get_some hk
        have hrow := map_row (enc := encI) hx
        have hnb := hb n (List.mem_of_getElem? hx)
        have hil := itoa_len (n := n) (by omega)
        have hll := listTo_len hb2 hn k
        refine AC.skip ?_
        refine AC.seq ?_
        refine AC.block ?_
        refine AC.seq ?_
        refine AC.seq ?_
        refine AC.region ?_
        refine AO.yld _ (Yld.move rfl) rfl rfl rfl ?_
        refine AO.yld _ (Yld.int rfl rfl rfl) rfl rfl rfl ?_
        refine AO.nil ?_
        refine AC.cond _ rfl (fun c15 => ?_) (fun c15 => ?_)
        · -- c15 True
          have hk0 : 0 < k := by have h := c15; simp at h; omega
          refine AC.region ?_
          refine AO.yld _ (Yld.move rfl) rfl rfl rfl ?_
          refine AO.yld _ (Yld.cat rfl rfl (by first | (simp only [List.length_append, List.length_cons, List.length_nil]; omega) | omega)) rfl rfl rfl ?_
          refine AO.yld _ (Yld.assign rfl) rfl rfl rfl ?_
          refine AO.nil ?_
          refine AC.region ?_
          refine AO.yld _ (Yld.move rfl) rfl rfl rfl ?_
          refine AO.yld _ (Yld.move rfl) rfl rfl rfl ?_
          refine AO.yld _ (Yld.move rfl) rfl rfl rfl ?_
          refine AO.yld _ (Yld.indexSl Tryd.underlying28 Tryd.sizeOf2 rfl rfl hrow rfl) rfl rfl rfl ?_
          refine AO.yld _ (Yld.load Tryd.isAgg2 rfl rfl) rfl rfl rfl ?_
          refine AO.yld _ (Yld.call rfl rfl Tryd.call100 rfl rfl rfl (spec_l01Dec_c (by omega)) rfl) rfl rfl rfl ?_
          refine AO.yld _ (Yld.cat rfl rfl (by first | (simp only [List.length_append, List.length_cons, List.length_nil]; omega) | omega)) rfl rfl rfl ?_
          refine AO.yld _ (Yld.assign rfl) rfl rfl rfl ?_
          refine AO.nil ?_
          refine AC.mark ?_
          refine AC.region ?_
          refine AO.yld _ (Yld.move rfl) rfl rfl rfl ?_
          refine AO.yld _ (Yld.add rfl rfl (by first | (simp only [List.length_append, List.length_cons, List.length_nil]; omega) | omega) (by first | (simp only [List.length_append, List.length_cons, List.length_nil]; omega) | omega)) rfl rfl rfl ?_
          refine AO.yld _ (Yld.assign rfl) rfl rfl rfl ?_
          refine AO.nil ?_
          refine AC.back ⟨k + 1, ?_, ?_, ⟨?_, ?_, trivial⟩, trivial, ⟨rfl, rfl, trivial⟩, trivial⟩
          · exact hk
          · omega
          · rfl
          · first | (rw [listTo_succ hx hk0]; rfl) | (subst hk0; rw [listTo_one hx]; rfl)
        · -- c15 False
          have hk0 : k = 0 := by have h := c15; simp at h; omega
          refine AC.skip ?_
          refine AC.region ?_
          refine AO.yld _ (Yld.move rfl) rfl rfl rfl ?_
          refine AO.yld _ (Yld.move rfl) rfl rfl rfl ?_
          refine AO.yld _ (Yld.move rfl) rfl rfl rfl ?_
          refine AO.yld _ (Yld.indexSl Tryd.underlying28 Tryd.sizeOf2 rfl rfl hrow rfl) rfl rfl rfl ?_
          refine AO.yld _ (Yld.load Tryd.isAgg2 rfl rfl) rfl rfl rfl ?_
          refine AO.yld _ (Yld.call rfl rfl Tryd.call100 rfl rfl rfl (spec_l01Dec_c (by omega)) rfl) rfl rfl rfl ?_
          refine AO.yld _ (Yld.cat rfl rfl (by first | (simp only [List.length_append, List.length_cons, List.length_nil]; omega) | omega)) rfl rfl rfl ?_
          refine AO.yld _ (Yld.assign rfl) rfl rfl rfl ?_
          refine AO.nil ?_
          refine AC.mark ?_
          refine AC.region ?_
          refine AO.yld _ (Yld.move rfl) rfl rfl rfl ?_
          refine AO.yld _ (Yld.add rfl rfl (by first | (simp only [List.length_append, List.length_cons, List.length_nil]; omega) | omega) (by first | (simp only [List.length_append, List.length_cons, List.length_nil]; omega) | omega)) rfl rfl rfl ?_
          refine AO.yld _ (Yld.assign rfl) rfl rfl rfl ?_
          refine AO.nil ?_
          refine AC.back ⟨k + 1, ?_, ?_, ⟨?_, ?_, trivial⟩, trivial, ⟨rfl, rfl, trivial⟩, trivial⟩
          · exact hk
          · omega
          · rfl
          · first | (rw [listTo_succ hx hk0]; rfl) | (subst hk0; rw [listTo_one hx]; rfl)
      · -- c11 False
        obtain rfl : k = l.length := by have := ge_of_decM c11; omega
        refine AC.exit rfl ?_
        refine AC.seq ?_
        refine AC.region ?_
        refine AO.yld _ (Yld.move rfl) rfl rfl rfl ?_
        refine AO.yld _ (Yld.assign rfl) rfl rfl rfl ?_
        refine AO.nil ?_
        refine Pure.ret Tryd.results155 (RVs.cons (RV.tmp rfl) RVs.nil) rfl ?_
        first
          | (rw [listD_zero hz]; done)
          | (rw [listD_zero hz]; rfl)
          | (rw [listD_pos hz]; done)
          | (rw [listD_pos hz]; rfl)

theorem impl_ListText_c {l : List Int} (hn : l.length ≤ 64) (hb : ∀ n ∈ l, -1000000000000 ≤ n ∧ n ≤ 1000000000000) :
    FnE (α := Unit) Tryd.prog 95 [.p (.sl 1 (l.map encI))] [(0, powR Tryd.prog)] [0] (fun _ => True) (fun _ => .p (.v (str (listD l)))) (fun _ => [(0, powR Tryd.prog)]) := by
  have hM : (l.map encI).length = l.length := List.length_map ..
  have hb2 : ∀ n ∈ l, n.natAbs < 1000000000000000000 := fun n h => by have := hb n h; omega
  obtain ⟨ts, hts⟩ : ∃ z, z = l.map Lib.itoa := ⟨_, rfl⟩
  have htl : ts.length = l.length := by rw [hts, List.length_map]
  have hend : listTo l l.length = Lib.join ts [44] := by rw [hts]; exact listTo_end
  have hle := listTo_len hb2 hn l.length
  rw [hend] at hle
  refine FnE.intro Tryd.func95 rfl Tryd.ntmps95 rfl rfl (fun w0 F0 η φ w => ?_)
  refine AC.seq ?_
  refine AC.region ?_
  refine AO.yld _ (Yld.assign rfl) rfl rfl rfl ?_
  refine AO.nil ?_
  refine AC.seq ?_
  refine AC.seq ?_
  refine AC.region ?_
  refine AO.yld _ (Yld.move rfl) rfl rfl rfl ?_
  refine AO.yld _ (Yld.len Tryd.underlying28 rfl rfl) rfl rfl rfl ?_
  refine AO.yld _ (Yld.int rfl rfl rfl) rfl rfl rfl ?_
  refine AO.nil ?_
  refine AC.cond _ rfl (fun c8 => ?_) (fun c8 => ?_)
  · -- c8 True
    exfalso; have h := c8; rw [hM] at h; simp at h; omega
  · -- c8 False
    refine AC.skip ?_
    refine AC.seq ?_
    refine AC.seq ?_
    refine AC.region ?_
    refine AO.yld _ (Yld.move rfl) rfl rfl rfl ?_
    refine AO.yld _ (Yld.len Tryd.underlying28 rfl rfl) rfl rfl rfl ?_
    refine AO.yld _ (Yld.int rfl rfl rfl) rfl rfl rfl ?_
    refine AO.nil ?_
    refine AC.cond _ rfl (fun c11 => ?_) (fun c11 => ?_)
    · -- c11 True
      have hz : l.length = 0 := by have h := c11; rw [hM] at h; simp at h; simpa using h
      refine AC.seq ?_
      refine AC.region ?_
      refine AO.yld _ (Yld.assign rfl) rfl rfl rfl ?_
      refine AO.nil ?_
      refine FnE.ret () [0] [0] Tryd.results95 (RVs.cons (RV.tmp rfl) RVs.nil) rfl rfl rfl ?_ ?_ ⟨⟨_, rfl, ?_⟩, trivial⟩
      · -- holds
        trivial
      · -- value
        first
          | (rw [listD_zero hz]; done)
          | (rw [listD_zero hz]; rfl)
          | (rw [listD_pos hz, hend]; done)
          | (rw [listD_pos hz, hend]; rfl)
      · -- thing 0
        first | rfl | exact vecE (by first | rfl | (simp_all; done) | grind) | (simp_all; done)
    · -- c11 False
      have hz : ¬ l.length = 0 := by have h := c11; rw [hM] at h; simp at h; simpa using h
      refine AC.skip ?_
      refine AC.seq ?_
      refine AC.region ?_
      refine AO.yld _ (Yld.move rfl) rfl rfl rfl ?_
      refine AO.yld _ (Yld.len Tryd.underlying28 rfl rfl) rfl rfl rfl ?_
      refine AO.make 1 Tryd.underlying120 ty9 rfl rfl rfl rfl rfl (Nat.le_refl _) (by rw [hM]; omega) (by rw [hM]; omega) rfl rfl ?_
      refine AO.yld _ (Yld.assign rfl) rfl rfl rfl ?_
      refine AO.nil ?_
      refine AC.seq ?_
      refine AC.seq ?_
      refine AC.region ?_
      refine AO.yld _ (Yld.move rfl) rfl rfl rfl ?_
      refine AO.yld _ (Yld.len Tryd.underlying28 rfl rfl) rfl rfl rfl ?_
      refine AO.yld _ (Yld.move rfl) rfl rfl rfl ?_
      refine AO.nil ?_
      refine AC.block ?_
      refine AC.loopC [(3, _), (15, _), (16, _)] [(0, _), (900, _)] (fun (k : Nat) => [(17, .p (.v (.int .i64 (k : Int)))), (3, .h 1)]) (fun (k : Nat) => [(1, .vec 9 1 (filled Go.V.encS [.v (.string ⟨#[]⟩)] ts k))]) (fun (k : Nat) => k ≤ l.length) (fun (k : Nat) => l.length - k) 0 ⟨rfl, rfl, rfl, trivial⟩ ⟨rfl, rfl, trivial⟩ ⟨rfl, rfl, trivial⟩ ⟨by rw [filled_zero, htl, ← hM]; rfl, trivial⟩ ?_ (fun k hJ => ?_)
      · exact Nat.zero_le _
      · -- round
        refine AC.seq ?_
        refine AC.region ?_
        refine AO.yld _ (Yld.int rfl rfl rfl) rfl rfl rfl ?_
        refine AO.nil ?_
        refine AC.seq ?_
        refine AC.cond _ rfl (fun c18 => ?_) (fun c18 => ?_)
        · -- c18 True
          have hk := lt_of_decM c18
          obtain ⟨n, hx⟩ := get_some hk
          have hrow := map_row (enc := encI) hx
          have hnb := hb n (List.mem_of_getElem? hx)
          have hil := itoa_len (n := n) (by omega)
          have hll := listTo_len hb2 hn k
          have htx : ts[k]? = some (Lib.itoa n) := by rw [hts, List.getElem?_map, hx]; rfl
          refine AC.skip ?_
          refine AC.seq ?_
          refine AC.block ?_
          refine AC.seq ?_
          refine AC.region ?_
          refine AO.yld _ (Yld.move rfl) rfl rfl rfl ?_
          refine AO.yld _ (Yld.indexSl Tryd.underlying28 Tryd.sizeOf2 rfl rfl hrow rfl) rfl rfl rfl ?_
          refine AO.yld _ (Yld.load Tryd.isAgg2 rfl rfl) rfl rfl rfl ?_
          refine AO.yld _ (Yld.assign rfl) rfl rfl rfl ?_
          refine AO.yld _ (Yld.assign rfl) rfl rfl rfl ?_
          refine AO.nil ?_
          refine AC.seq ?_
          refine AC.seq ?_
          refine AC.region ?_
          refine AO.yld _ (Yld.move rfl) rfl rfl rfl ?_
          refine AO.yld _ (Yld.call rfl rfl Tryd.call80 rfl rfl rfl (impl_within_c) rfl) rfl rfl rfl ?_
          refine AO.yld _ (Yld.not rfl) rfl rfl rfl ?_
          refine AO.nil ?_
          refine AC.cond _ rfl (fun c24 => ?_) (fun c24 => ?_)
          · -- c24 True
            exfalso; have h := c24; simp only [Bool.not_eq_true', Bool.and_eq_false_iff, decide_eq_false_iff_not] at h; omega
          · -- c24 False
            refine AC.skip ?_
            refine AC.region ?_
            refine AO.yld _ (Yld.move rfl) rfl rfl rfl ?_
            refine AO.yld _ (Yld.move rfl) rfl rfl rfl ?_
            refine AO.yld _ (Yld.move rfl) rfl rfl rfl ?_
            refine AO.callW (wantedN rfl) [0] [0] [0] rfl rfl Tryd.call86 rfl (impl_Decimal_c (by omega) (by omega)) (.own rfl) rfl (fun _ => rfl) ⟨rfl, trivial⟩ rfl (fun _ => rfl) (fun _ => rfl) (fun _ _ => ?_)
            refine AO.yld _ (Yld.indexVec Tryd.underlying120 Tryd.sizeOf9 rfl rfl rfl rfl (by rw [filled_length (by omega)]; omega)) rfl rfl rfl ?_
            refine AO.store Tryd.sizeOf9 rfl rfl rfl rfl rfl (store_el rfl (filled_get (by omega)) rfl rfl) ?_
            refine AO.nil ?_
            refine AC.mark ?_
            refine AC.region ?_
            refine AO.yld _ (Yld.add rfl rfl (by omega) (by omega)) rfl rfl rfl ?_
            refine AO.yld _ (Yld.move rfl) rfl rfl rfl ?_
            refine AO.nil ?_
            refine AC.back ⟨k + 1, ?_, ?_, ⟨?_, ?_, trivial⟩, ⟨?_, trivial⟩, ⟨rfl, rfl, rfl, trivial⟩, ⟨rfl, rfl, trivial⟩⟩
            · exact hk
            · omega
            · rfl
            · rfl
            · rw [← filled_set htx]; rfl
        · -- c18 False
          obtain rfl : k = ts.length := by have := ge_of_decM c18; omega
          rw [filled_end]
          refine AC.exit rfl ?_
          refine AC.seq ?_
          refine AC.region ?_
          refine AO.yld _ (Yld.move rfl) rfl rfl rfl ?_
          refine AO.yld _ (Yld.call rfl rfl Tryd.call156 rfl rfl rfl (join_pure (ss := ts) (sep := [44]) ⟨Tryd.strings_Join, Tryd.strings_Join_none⟩ (by omega) (by omega)) rfl) rfl rfl rfl ?_
          refine AO.yld _ (Yld.assign rfl) rfl rfl rfl ?_
          refine AO.nil ?_
          refine FnE.ret () [0] [0] Tryd.results95 (RVs.cons (RV.tmp rfl) RVs.nil) rfl rfl rfl ?_ ?_ ⟨⟨_, rfl, ?_⟩, trivial⟩
          · -- holds
            trivial
          · -- value
            first
              | (rw [listD_zero hz]; done)
              | (rw [listD_zero hz]; rfl)
              | (rw [listD_pos hz, hend]; done)
              | (rw [listD_pos hz, hend]; rfl)
          · -- thing 0
            first | rfl | exact vecE (by first | rfl | (simp_all; done) | grind) | (simp_all; done)

theorem spec_l28Text_c {x : Session} (hb : ∀ n ∈ sessL x, -1000000000000 ≤ n ∧ n ≤ 1000000000000) :
    Pure Tryd.prog 93 [.ptr (encSession x)] (.v (str (listD (sessL x)))) := by
  refine Pure.intro Tryd.func93 rfl Tryd.ntmps93 rfl rfl (fun w => ?_)
  refine AC.seq ?_
  refine AC.region ?_
  refine AO.yld _ (Yld.assign rfl) rfl rfl rfl ?_
  refine AO.nil ?_
  refine AC.seq ?_
  apply AC.drawAnyC (α := Unit) [(0, _)] [] (fun y9 => [(2, .p (.v (str (listD (sessL x)))))]) (fun y9 => [(0, .vec 2 1 ((sessL x).map encI))]) (by kernel_rfl)
  · -- orders
    refine ANx.take 0 rfl (by kernel_rfl) (by kernel_rfl) (by kernel_rfl) rfl rfl rfl (YldA.move rfl) ?_
    refine ANx.take 1 rfl (by kernel_rfl) (by kernel_rfl) (by kernel_rfl) rfl rfl rfl (YldA.nilCheck rfl rfl) ?_
    refine ANx.take 2 rfl (by kernel_rfl) (by kernel_rfl) (by kernel_rfl) rfl rfl rfl (YldA.fieldAddr Tryd.underlying64 rfl rfl Tryd.sizeOf2 rfl rfl rfl) ?_
    refine ANx.take 4 rfl (by kernel_rfl) (by kernel_rfl) (by kernel_rfl) rfl rfl rfl (YldA.move rfl) ?_
    refine ANx.take 5 rfl (by kernel_rfl) (by kernel_rfl) (by kernel_rfl) rfl rfl rfl (YldA.nilCheck rfl rfl) ?_
    refine ANx.take 6 rfl (by kernel_rfl) (by kernel_rfl) (by kernel_rfl) rfl rfl rfl (YldA.fieldAddr Tryd.underlying64 rfl rfl Tryd.sizeOf2 rfl rfl rfl) ?_
    refine ANx.take 8 rfl (by kernel_rfl) (by kernel_rfl) (by kernel_rfl) rfl rfl rfl (YldA.move rfl) ?_
    refine ANx.take 9 rfl (by kernel_rfl) (by kernel_rfl) (by kernel_rfl) rfl rfl rfl (YldA.nilCheck rfl rfl) ?_
    refine ANx.take 10 rfl (by kernel_rfl) (by kernel_rfl) (by kernel_rfl) rfl rfl rfl (YldA.fieldAddr Tryd.underlying64 rfl rfl Tryd.sizeOf2 rfl rfl rfl) ?_
    refine ANx.take 12 rfl (by kernel_rfl) (by kernel_rfl) (by kernel_rfl) rfl rfl rfl (YldA.move rfl) ?_
    refine ANx.take 13 rfl (by kernel_rfl) (by kernel_rfl) (by kernel_rfl) rfl rfl rfl (YldA.nilCheck rfl rfl) ?_
    refine ANx.take 14 rfl (by kernel_rfl) (by kernel_rfl) (by kernel_rfl) rfl rfl rfl (YldA.fieldAddr Tryd.underlying64 rfl rfl Tryd.sizeOf2 rfl rfl rfl) ?_
    refine ANx.all (rs := [3, 7, 11, 15]) (by kernel_rfl) rfl ⟨?_, ?_, ?_, ?_, trivial⟩
    · -- 3
      refine Stpx.eff rfl rfl (Eff.yld (Yld.load Tryd.isAgg2 rfl rfl) rfl rfl) ?_
      refine ANx.all (rs := [7, 11, 15]) (by kernel_rfl) rfl ⟨?_, ?_, ?_, trivial⟩
      · -- 7
        refine Stpx.eff rfl rfl (Eff.yld (Yld.load Tryd.isAgg2 rfl rfl) rfl rfl) ?_
        refine ANx.all (rs := [11, 15]) (by kernel_rfl) rfl ⟨?_, ?_, trivial⟩
        · -- 11
          refine Stpx.eff rfl rfl (Eff.yld (Yld.load Tryd.isAgg2 rfl rfl) rfl rfl) ?_
          refine ANx.all (rs := [15]) (by kernel_rfl) rfl ⟨?_, trivial⟩
          refine Stpx.eff rfl rfl (Eff.yld (Yld.load Tryd.isAgg2 rfl rfl) rfl rfl) ?_
          refine ANx.all (rs := [16]) (by kernel_rfl) rfl ⟨?_, trivial⟩
          refine Stpx.eff rfl rfl (Eff.buildSlice (rows := [[_], [_], [_], [_]]) 0 Tryd.underlying28 ty2 rfl rfl rfl rfl rfl rfl rfl rfl rfl) ?_
          refine ANx.all (rs := [17]) (by kernel_rfl) rfl ⟨?_, trivial⟩
          refine Stpx.eff rfl rfl (Eff.yld (Yld.call rfl rfl Tryd.call155 rfl rfl rfl (spec_l01List_c (l := sessL x) (by simp [sessL]) (by assumption)) rfl) rfl rfl) ?_
          refine ANx.take 18 rfl (by kernel_rfl) (by kernel_rfl) (by kernel_rfl) rfl rfl rfl (YldA.assign rfl) ?_
          exact ANx.doneC () (by kernel_rfl) ⟨rfl, trivial⟩ ⟨rfl, trivial⟩ ⟨rfl, trivial⟩ trivial
        · -- 15
          refine Stpx.eff rfl rfl (Eff.yld (Yld.load Tryd.isAgg2 rfl rfl) rfl rfl) ?_
          refine ANx.all (rs := [11]) (by kernel_rfl) rfl ⟨?_, trivial⟩
          refine Stpx.eff rfl rfl (Eff.yld (Yld.load Tryd.isAgg2 rfl rfl) rfl rfl) ?_
          refine ANx.all (rs := [16]) (by kernel_rfl) rfl ⟨?_, trivial⟩
          refine Stpx.eff rfl rfl (Eff.buildSlice (rows := [[_], [_], [_], [_]]) 0 Tryd.underlying28 ty2 rfl rfl rfl rfl rfl rfl rfl rfl rfl) ?_
          refine ANx.all (rs := [17]) (by kernel_rfl) rfl ⟨?_, trivial⟩
          refine Stpx.eff rfl rfl (Eff.yld (Yld.call rfl rfl Tryd.call155 rfl rfl rfl (spec_l01List_c (l := sessL x) (by simp [sessL]) (by assumption)) rfl) rfl rfl) ?_
          refine ANx.take 18 rfl (by kernel_rfl) (by kernel_rfl) (by kernel_rfl) rfl rfl rfl (YldA.assign rfl) ?_
          exact ANx.doneC () (by kernel_rfl) ⟨rfl, trivial⟩ ⟨rfl, trivial⟩ ⟨rfl, trivial⟩ trivial
      · -- 11
        refine Stpx.eff rfl rfl (Eff.yld (Yld.load Tryd.isAgg2 rfl rfl) rfl rfl) ?_
        refine ANx.all (rs := [7, 15]) (by kernel_rfl) rfl ⟨?_, ?_, trivial⟩
        · -- 7
          refine Stpx.eff rfl rfl (Eff.yld (Yld.load Tryd.isAgg2 rfl rfl) rfl rfl) ?_
          refine ANx.all (rs := [15]) (by kernel_rfl) rfl ⟨?_, trivial⟩
          refine Stpx.eff rfl rfl (Eff.yld (Yld.load Tryd.isAgg2 rfl rfl) rfl rfl) ?_
          refine ANx.all (rs := [16]) (by kernel_rfl) rfl ⟨?_, trivial⟩
          refine Stpx.eff rfl rfl (Eff.buildSlice (rows := [[_], [_], [_], [_]]) 0 Tryd.underlying28 ty2 rfl rfl rfl rfl rfl rfl rfl rfl rfl) ?_
          refine ANx.all (rs := [17]) (by kernel_rfl) rfl ⟨?_, trivial⟩
          refine Stpx.eff rfl rfl (Eff.yld (Yld.call rfl rfl Tryd.call155 rfl rfl rfl (spec_l01List_c (l := sessL x) (by simp [sessL]) (by assumption)) rfl) rfl rfl) ?_
          refine ANx.take 18 rfl (by kernel_rfl) (by kernel_rfl) (by kernel_rfl) rfl rfl rfl (YldA.assign rfl) ?_
          exact ANx.doneC () (by kernel_rfl) ⟨rfl, trivial⟩ ⟨rfl, trivial⟩ ⟨rfl, trivial⟩ trivial
        · -- 15
          refine Stpx.eff rfl rfl (Eff.yld (Yld.load Tryd.isAgg2 rfl rfl) rfl rfl) ?_
          refine ANx.all (rs := [7]) (by kernel_rfl) rfl ⟨?_, trivial⟩
          refine Stpx.eff rfl rfl (Eff.yld (Yld.load Tryd.isAgg2 rfl rfl) rfl rfl) ?_
          refine ANx.all (rs := [16]) (by kernel_rfl) rfl ⟨?_, trivial⟩
          refine Stpx.eff rfl rfl (Eff.buildSlice (rows := [[_], [_], [_], [_]]) 0 Tryd.underlying28 ty2 rfl rfl rfl rfl rfl rfl rfl rfl rfl) ?_
          refine ANx.all (rs := [17]) (by kernel_rfl) rfl ⟨?_, trivial⟩
          refine Stpx.eff rfl rfl (Eff.yld (Yld.call rfl rfl Tryd.call155 rfl rfl rfl (spec_l01List_c (l := sessL x) (by simp [sessL]) (by assumption)) rfl) rfl rfl) ?_
          refine ANx.take 18 rfl (by kernel_rfl) (by kernel_rfl) (by kernel_rfl) rfl rfl rfl (YldA.assign rfl) ?_
          exact ANx.doneC () (by kernel_rfl) ⟨rfl, trivial⟩ ⟨rfl, trivial⟩ ⟨rfl, trivial⟩ trivial
      · -- 15
        refine Stpx.eff rfl rfl (Eff.yld (Yld.load Tryd.isAgg2 rfl rfl) rfl rfl) ?_
        refine ANx.all (rs := [7, 11]) (by kernel_rfl) rfl ⟨?_, ?_, trivial⟩
        · -- 7
          refine Stpx.eff rfl rfl (Eff.yld (Yld.load Tryd.isAgg2 rfl rfl) rfl rfl) ?_
          refine ANx.all (rs := [11]) (by kernel_rfl) rfl ⟨?_, trivial⟩
          refine Stpx.eff rfl rfl (Eff.yld (Yld.load Tryd.isAgg2 rfl rfl) rfl rfl) ?_
          refine ANx.all (rs := [16]) (by kernel_rfl) rfl ⟨?_, trivial⟩
          refine Stpx.eff rfl rfl (Eff.buildSlice (rows := [[_], [_], [_], [_]]) 0 Tryd.underlying28 ty2 rfl rfl rfl rfl rfl rfl rfl rfl rfl) ?_
          refine ANx.all (rs := [17]) (by kernel_rfl) rfl ⟨?_, trivial⟩
          refine Stpx.eff rfl rfl (Eff.yld (Yld.call rfl rfl Tryd.call155 rfl rfl rfl (spec_l01List_c (l := sessL x) (by simp [sessL]) (by assumption)) rfl) rfl rfl) ?_
          refine ANx.take 18 rfl (by kernel_rfl) (by kernel_rfl) (by kernel_rfl) rfl rfl rfl (YldA.assign rfl) ?_
          exact ANx.doneC () (by kernel_rfl) ⟨rfl, trivial⟩ ⟨rfl, trivial⟩ ⟨rfl, trivial⟩ trivial
        · -- 11
          refine Stpx.eff rfl rfl (Eff.yld (Yld.load Tryd.isAgg2 rfl rfl) rfl rfl) ?_
          refine ANx.all (rs := [7]) (by kernel_rfl) rfl ⟨?_, trivial⟩
          refine Stpx.eff rfl rfl (Eff.yld (Yld.load Tryd.isAgg2 rfl rfl) rfl rfl) ?_
          refine ANx.all (rs := [16]) (by kernel_rfl) rfl ⟨?_, trivial⟩
          refine Stpx.eff rfl rfl (Eff.buildSlice (rows := [[_], [_], [_], [_]]) 0 Tryd.underlying28 ty2 rfl rfl rfl rfl rfl rfl rfl rfl rfl) ?_
          refine ANx.all (rs := [17]) (by kernel_rfl) rfl ⟨?_, trivial⟩
          refine Stpx.eff rfl rfl (Eff.yld (Yld.call rfl rfl Tryd.call155 rfl rfl rfl (spec_l01List_c (l := sessL x) (by simp [sessL]) (by assumption)) rfl) rfl rfl) ?_
          refine ANx.take 18 rfl (by kernel_rfl) (by kernel_rfl) (by kernel_rfl) rfl rfl rfl (YldA.assign rfl) ?_
          exact ANx.doneC () (by kernel_rfl) ⟨rfl, trivial⟩ ⟨rfl, trivial⟩ ⟨rfl, trivial⟩ trivial
    · -- 7
      refine Stpx.eff rfl rfl (Eff.yld (Yld.load Tryd.isAgg2 rfl rfl) rfl rfl) ?_
      refine ANx.all (rs := [3, 11, 15]) (by kernel_rfl) rfl ⟨?_, ?_, ?_, trivial⟩
      · -- 3
        refine Stpx.eff rfl rfl (Eff.yld (Yld.load Tryd.isAgg2 rfl rfl) rfl rfl) ?_
        refine ANx.all (rs := [11, 15]) (by kernel_rfl) rfl ⟨?_, ?_, trivial⟩
        · -- 11
          refine Stpx.eff rfl rfl (Eff.yld (Yld.load Tryd.isAgg2 rfl rfl) rfl rfl) ?_
          refine ANx.all (rs := [15]) (by kernel_rfl) rfl ⟨?_, trivial⟩
          refine Stpx.eff rfl rfl (Eff.yld (Yld.load Tryd.isAgg2 rfl rfl) rfl rfl) ?_
          refine ANx.all (rs := [16]) (by kernel_rfl) rfl ⟨?_, trivial⟩
          refine Stpx.eff rfl rfl (Eff.buildSlice (rows := [[_], [_], [_], [_]]) 0 Tryd.underlying28 ty2 rfl rfl rfl rfl rfl rfl rfl rfl rfl) ?_
          refine ANx.all (rs := [17]) (by kernel_rfl) rfl ⟨?_, trivial⟩
          refine Stpx.eff rfl rfl (Eff.yld (Yld.call rfl rfl Tryd.call155 rfl rfl rfl (spec_l01List_c (l := sessL x) (by simp [sessL]) (by assumption)) rfl) rfl rfl) ?_
          refine ANx.take 18 rfl (by kernel_rfl) (by kernel_rfl) (by kernel_rfl) rfl rfl rfl (YldA.assign rfl) ?_
          exact ANx.doneC () (by kernel_rfl) ⟨rfl, trivial⟩ ⟨rfl, trivial⟩ ⟨rfl, trivial⟩ trivial
        · -- 15
          refine Stpx.eff rfl rfl (Eff.yld (Yld.load Tryd.isAgg2 rfl rfl) rfl rfl) ?_
          refine ANx.all (rs := [11]) (by kernel_rfl) rfl ⟨?_, trivial⟩
          refine Stpx.eff rfl rfl (Eff.yld (Yld.load Tryd.isAgg2 rfl rfl) rfl rfl) ?_
          refine ANx.all (rs := [16]) (by kernel_rfl) rfl ⟨?_, trivial⟩
          refine Stpx.eff rfl rfl (Eff.buildSlice (rows := [[_], [_], [_], [_]]) 0 Tryd.underlying28 ty2 rfl rfl rfl rfl rfl rfl rfl rfl rfl) ?_
          refine ANx.all (rs := [17]) (by kernel_rfl) rfl ⟨?_, trivial⟩
          refine Stpx.eff rfl rfl (Eff.yld (Yld.call rfl rfl Tryd.call155 rfl rfl rfl (spec_l01List_c (l := sessL x) (by simp [sessL]) (by assumption)) rfl) rfl rfl) ?_
          refine ANx.take 18 rfl (by kernel_rfl) (by kernel_rfl) (by kernel_rfl) rfl rfl rfl (YldA.assign rfl) ?_
          exact ANx.doneC () (by kernel_rfl) ⟨rfl, trivial⟩ ⟨rfl, trivial⟩ ⟨rfl, trivial⟩ trivial
      · -- 11
        refine Stpx.eff rfl rfl (Eff.yld (Yld.load Tryd.isAgg2 rfl rfl) rfl rfl) ?_
        refine ANx.all (rs := [3, 15]) (by kernel_rfl) rfl ⟨?_, ?_, trivial⟩
        · -- 3
          refine Stpx.eff rfl rfl (Eff.yld (Yld.load Tryd.isAgg2 rfl rfl) rfl rfl) ?_
          refine ANx.all (rs := [15]) (by kernel_rfl) rfl ⟨?_, trivial⟩
          refine Stpx.eff rfl rfl (Eff.yld (Yld.load Tryd.isAgg2 rfl rfl) rfl rfl) ?_
          refine ANx.all (rs := [16]) (by kernel_rfl) rfl ⟨?_, trivial⟩
          refine Stpx.eff rfl rfl (Eff.buildSlice (rows := [[_], [_], [_], [_]]) 0 Tryd.underlying28 ty2 rfl rfl rfl rfl rfl rfl rfl rfl rfl) ?_
          refine ANx.all (rs := [17]) (by kernel_rfl) rfl ⟨?_, trivial⟩
          refine Stpx.eff rfl rfl (Eff.yld (Yld.call rfl rfl Tryd.call155 rfl rfl rfl (spec_l01List_c (l := sessL x) (by simp [sessL]) (by assumption)) rfl) rfl rfl) ?_
          refine ANx.take 18 rfl (by kernel_rfl) (by kernel_rfl) (by kernel_rfl) rfl rfl rfl (YldA.assign rfl) ?_
          exact ANx.doneC () (by kernel_rfl) ⟨rfl, trivial⟩ ⟨rfl, trivial⟩ ⟨rfl, trivial⟩ trivial
        · -- 15
          refine Stpx.eff rfl rfl (Eff.yld (Yld.load Tryd.isAgg2 rfl rfl) rfl rfl) ?_
          refine ANx.all (rs := [3]) (by kernel_rfl) rfl ⟨?_, trivial⟩
          refine Stpx.eff rfl rfl (Eff.yld (Yld.load Tryd.isAgg2 rfl rfl) rfl rfl) ?_
          refine ANx.all (rs := [16]) (by kernel_rfl) rfl ⟨?_, trivial⟩
          refine Stpx.eff rfl rfl (Eff.buildSlice (rows := [[_], [_], [_], [_]]) 0 Tryd.underlying28 ty2 rfl rfl rfl rfl rfl rfl rfl rfl rfl) ?_
          refine ANx.all (rs := [17]) (by kernel_rfl) rfl ⟨?_, trivial⟩
          refine Stpx.eff rfl rfl (Eff.yld (Yld.call rfl rfl Tryd.call155 rfl rfl rfl (spec_l01List_c (l := sessL x) (by simp [sessL]) (by assumption)) rfl) rfl rfl) ?_
          refine ANx.take 18 rfl (by kernel_rfl) (by kernel_rfl) (by kernel_rfl) rfl rfl rfl (YldA.assign rfl) ?_
          exact ANx.doneC () (by kernel_rfl) ⟨rfl, trivial⟩ ⟨rfl, trivial⟩ ⟨rfl, trivial⟩ trivial
      · -- 15
        refine Stpx.eff rfl rfl (Eff.yld (Yld.load Tryd.isAgg2 rfl rfl) rfl rfl) ?_
        refine ANx.all (rs := [3, 11]) (by kernel_rfl) rfl ⟨?_, ?_, trivial⟩
        · -- 3
          refine Stpx.eff rfl rfl (Eff.yld (Yld.load Tryd.isAgg2 rfl rfl) rfl rfl) ?_
          refine ANx.all (rs := [11]) (by kernel_rfl) rfl ⟨?_, trivial⟩
          refine Stpx.eff rfl rfl (Eff.yld (Yld.load Tryd.isAgg2 rfl rfl) rfl rfl) ?_
          refine ANx.all (rs := [16]) (by kernel_rfl) rfl ⟨?_, trivial⟩
          refine Stpx.eff rfl rfl (Eff.buildSlice (rows := [[_], [_], [_], [_]]) 0 Tryd.underlying28 ty2 rfl rfl rfl rfl rfl rfl rfl rfl rfl) ?_
          refine ANx.all (rs := [17]) (by kernel_rfl) rfl ⟨?_, trivial⟩
          refine Stpx.eff rfl rfl (Eff.yld (Yld.call rfl rfl Tryd.call155 rfl rfl rfl (spec_l01List_c (l := sessL x) (by simp [sessL]) (by assumption)) rfl) rfl rfl) ?_
          refine ANx.take 18 rfl (by kernel_rfl) (by kernel_rfl) (by kernel_rfl) rfl rfl rfl (YldA.assign rfl) ?_
          exact ANx.doneC () (by kernel_rfl) ⟨rfl, trivial⟩ ⟨rfl, trivial⟩ ⟨rfl, trivial⟩ trivial
        · -- 11
          refine Stpx.eff rfl rfl (Eff.yld (Yld.load Tryd.isAgg2 rfl rfl) rfl rfl) ?_
          refine ANx.all (rs := [3]) (by kernel_rfl) rfl ⟨?_, trivial⟩
          refine Stpx.eff rfl rfl (Eff.yld (Yld.load Tryd.isAgg2 rfl rfl) rfl rfl) ?_
          refine ANx.all (rs := [16]) (by kernel_rfl) rfl ⟨?_, trivial⟩
          refine Stpx.eff rfl rfl (Eff.buildSlice (rows := [[_], [_], [_], [_]]) 0 Tryd.underlying28 ty2 rfl rfl rfl rfl rfl rfl rfl rfl rfl) ?_
          refine ANx.all (rs := [17]) (by kernel_rfl) rfl ⟨?_, trivial⟩
          refine Stpx.eff rfl rfl (Eff.yld (Yld.call rfl rfl Tryd.call155 rfl rfl rfl (spec_l01List_c (l := sessL x) (by simp [sessL]) (by assumption)) rfl) rfl rfl) ?_
          refine ANx.take 18 rfl (by kernel_rfl) (by kernel_rfl) (by kernel_rfl) rfl rfl rfl (YldA.assign rfl) ?_
          exact ANx.doneC () (by kernel_rfl) ⟨rfl, trivial⟩ ⟨rfl, trivial⟩ ⟨rfl, trivial⟩ trivial
    · -- 11
      refine Stpx.eff rfl rfl (Eff.yld (Yld.load Tryd.isAgg2 rfl rfl) rfl rfl) ?_
      refine ANx.all (rs := [3, 7, 15]) (by kernel_rfl) rfl ⟨?_, ?_, ?_, trivial⟩
      · -- 3
        refine Stpx.eff rfl rfl (Eff.yld (Yld.load Tryd.isAgg2 rfl rfl) rfl rfl) ?_
        refine ANx.all (rs := [7, 15]) (by kernel_rfl) rfl ⟨?_, ?_, trivial⟩
        · -- 7
          refine Stpx.eff rfl rfl (Eff.yld (Yld.load Tryd.isAgg2 rfl rfl) rfl rfl) ?_
          refine ANx.all (rs := [15]) (by kernel_rfl) rfl ⟨?_, trivial⟩
          refine Stpx.eff rfl rfl (Eff.yld (Yld.load Tryd.isAgg2 rfl rfl) rfl rfl) ?_
          refine ANx.all (rs := [16]) (by kernel_rfl) rfl ⟨?_, trivial⟩
          refine Stpx.eff rfl rfl (Eff.buildSlice (rows := [[_], [_], [_], [_]]) 0 Tryd.underlying28 ty2 rfl rfl rfl rfl rfl rfl rfl rfl rfl) ?_
          refine ANx.all (rs := [17]) (by kernel_rfl) rfl ⟨?_, trivial⟩
          refine Stpx.eff rfl rfl (Eff.yld (Yld.call rfl rfl Tryd.call155 rfl rfl rfl (spec_l01List_c (l := sessL x) (by simp [sessL]) (by assumption)) rfl) rfl rfl) ?_
          refine ANx.take 18 rfl (by kernel_rfl) (by kernel_rfl) (by kernel_rfl) rfl rfl rfl (YldA.assign rfl) ?_
          exact ANx.doneC () (by kernel_rfl) ⟨rfl, trivial⟩ ⟨rfl, trivial⟩ ⟨rfl, trivial⟩ trivial
        · -- 15
          refine Stpx.eff rfl rfl (Eff.yld (Yld.load Tryd.isAgg2 rfl rfl) rfl rfl) ?_
          refine ANx.all (rs := [7]) (by kernel_rfl) rfl ⟨?_, trivial⟩
          refine Stpx.eff rfl rfl (Eff.yld (Yld.load Tryd.isAgg2 rfl rfl) rfl rfl) ?_
          refine ANx.all (rs := [16]) (by kernel_rfl) rfl ⟨?_, trivial⟩
          refine Stpx.eff rfl rfl (Eff.buildSlice (rows := [[_], [_], [_], [_]]) 0 Tryd.underlying28 ty2 rfl rfl rfl rfl rfl rfl rfl rfl rfl) ?_
          refine ANx.all (rs := [17]) (by kernel_rfl) rfl ⟨?_, trivial⟩
          refine Stpx.eff rfl rfl (Eff.yld (Yld.call rfl rfl Tryd.call155 rfl rfl rfl (spec_l01List_c (l := sessL x) (by simp [sessL]) (by assumption)) rfl) rfl rfl) ?_
          refine ANx.take 18 rfl (by kernel_rfl) (by kernel_rfl) (by kernel_rfl) rfl rfl rfl (YldA.assign rfl) ?_
          exact ANx.doneC () (by kernel_rfl) ⟨rfl, trivial⟩ ⟨rfl, trivial⟩ ⟨rfl, trivial⟩ trivial
      · -- 7
        refine Stpx.eff rfl rfl (Eff.yld (Yld.load Tryd.isAgg2 rfl rfl) rfl rfl) ?_
        refine ANx.all (rs := [3, 15]) (by kernel_rfl) rfl ⟨?_, ?_, trivial⟩
        · -- 3
          refine Stpx.eff rfl rfl (Eff.yld (Yld.load Tryd.isAgg2 rfl rfl) rfl rfl) ?_
          refine ANx.all (rs := [15]) (by kernel_rfl) rfl ⟨?_, trivial⟩
          refine Stpx.eff rfl rfl (Eff.yld (Yld.load Tryd.isAgg2 rfl rfl) rfl rfl) ?_
          refine ANx.all (rs := [16]) (by kernel_rfl) rfl ⟨?_, trivial⟩
          refine Stpx.eff rfl rfl (Eff.buildSlice (rows := [[_], [_], [_], [_]]) 0 Tryd.underlying28 ty2 rfl rfl rfl rfl rfl rfl rfl rfl rfl) ?_
          refine ANx.all (rs := [17]) (by kernel_rfl) rfl ⟨?_, trivial⟩
          refine Stpx.eff rfl rfl (Eff.yld (Yld.call rfl rfl Tryd.call155 rfl rfl rfl (spec_l01List_c (l := sessL x) (by simp [sessL]) (by assumption)) rfl) rfl rfl) ?_
          refine ANx.take 18 rfl (by kernel_rfl) (by kernel_rfl) (by kernel_rfl) rfl rfl rfl (YldA.assign rfl) ?_
          exact ANx.doneC () (by kernel_rfl) ⟨rfl, trivial⟩ ⟨rfl, trivial⟩ ⟨rfl, trivial⟩ trivial
        · -- 15
          refine Stpx.eff rfl rfl (Eff.yld (Yld.load Tryd.isAgg2 rfl rfl) rfl rfl) ?_
          refine ANx.all (rs := [3]) (by kernel_rfl) rfl ⟨?_, trivial⟩
          refine Stpx.eff rfl rfl (Eff.yld (Yld.load Tryd.isAgg2 rfl rfl) rfl rfl) ?_
          refine ANx.all (rs := [16]) (by kernel_rfl) rfl ⟨?_, trivial⟩
          refine Stpx.eff rfl rfl (Eff.buildSlice (rows := [[_], [_], [_], [_]]) 0 Tryd.underlying28 ty2 rfl rfl rfl rfl rfl rfl rfl rfl rfl) ?_
          refine ANx.all (rs := [17]) (by kernel_rfl) rfl ⟨?_, trivial⟩
          refine Stpx.eff rfl rfl (Eff.yld (Yld.call rfl rfl Tryd.call155 rfl rfl rfl (spec_l01List_c (l := sessL x) (by simp [sessL]) (by assumption)) rfl) rfl rfl) ?_
          refine ANx.take 18 rfl (by kernel_rfl) (by kernel_rfl) (by kernel_rfl) rfl rfl rfl (YldA.assign rfl) ?_
          exact ANx.doneC () (by kernel_rfl) ⟨rfl, trivial⟩ ⟨rfl, trivial⟩ ⟨rfl, trivial⟩ trivial
      · -- 15
        refine Stpx.eff rfl rfl (Eff.yld (Yld.load Tryd.isAgg2 rfl rfl) rfl rfl) ?_
        refine ANx.all (rs := [3, 7]) (by kernel_rfl) rfl ⟨?_, ?_, trivial⟩
        · -- 3
          refine Stpx.eff rfl rfl (Eff.yld (Yld.load Tryd.isAgg2 rfl rfl) rfl rfl) ?_
          refine ANx.all (rs := [7]) (by kernel_rfl) rfl ⟨?_, trivial⟩
          refine Stpx.eff rfl rfl (Eff.yld (Yld.load Tryd.isAgg2 rfl rfl) rfl rfl) ?_
          refine ANx.all (rs := [16]) (by kernel_rfl) rfl ⟨?_, trivial⟩
          refine Stpx.eff rfl rfl (Eff.buildSlice (rows := [[_], [_], [_], [_]]) 0 Tryd.underlying28 ty2 rfl rfl rfl rfl rfl rfl rfl rfl rfl) ?_
          refine ANx.all (rs := [17]) (by kernel_rfl) rfl ⟨?_, trivial⟩
          refine Stpx.eff rfl rfl (Eff.yld (Yld.call rfl rfl Tryd.call155 rfl rfl rfl (spec_l01List_c (l := sessL x) (by simp [sessL]) (by assumption)) rfl) rfl rfl) ?_
          refine ANx.take 18 rfl (by kernel_rfl) (by kernel_rfl) (by kernel_rfl) rfl rfl rfl (YldA.assign rfl) ?_
          exact ANx.doneC () (by kernel_rfl) ⟨rfl, trivial⟩ ⟨rfl, trivial⟩ ⟨rfl, trivial⟩ trivial
        · -- 7
          refine Stpx.eff rfl rfl (Eff.yld (Yld.load Tryd.isAgg2 rfl rfl) rfl rfl) ?_
          refine ANx.all (rs := [3]) (by kernel_rfl) rfl ⟨?_, trivial⟩
          refine Stpx.eff rfl rfl (Eff.yld (Yld.load Tryd.isAgg2 rfl rfl) rfl rfl) ?_
          refine ANx.all (rs := [16]) (by kernel_rfl) rfl ⟨?_, trivial⟩
          refine Stpx.eff rfl rfl (Eff.buildSlice (rows := [[_], [_], [_], [_]]) 0 Tryd.underlying28 ty2 rfl rfl rfl rfl rfl rfl rfl rfl rfl) ?_
          refine ANx.all (rs := [17]) (by kernel_rfl) rfl ⟨?_, trivial⟩
          refine Stpx.eff rfl rfl (Eff.yld (Yld.call rfl rfl Tryd.call155 rfl rfl rfl (spec_l01List_c (l := sessL x) (by simp [sessL]) (by assumption)) rfl) rfl rfl) ?_
          refine ANx.take 18 rfl (by kernel_rfl) (by kernel_rfl) (by kernel_rfl) rfl rfl rfl (YldA.assign rfl) ?_
          exact ANx.doneC () (by kernel_rfl) ⟨rfl, trivial⟩ ⟨rfl, trivial⟩ ⟨rfl, trivial⟩ trivial
    · -- 15
      refine Stpx.eff rfl rfl (Eff.yld (Yld.load Tryd.isAgg2 rfl rfl) rfl rfl) ?_
      refine ANx.all (rs := [3, 7, 11]) (by kernel_rfl) rfl ⟨?_, ?_, ?_, trivial⟩
      · -- 3
        refine Stpx.eff rfl rfl (Eff.yld (Yld.load Tryd.isAgg2 rfl rfl) rfl rfl) ?_
        refine ANx.all (rs := [7, 11]) (by kernel_rfl) rfl ⟨?_, ?_, trivial⟩
        · -- 7
          refine Stpx.eff rfl rfl (Eff.yld (Yld.load Tryd.isAgg2 rfl rfl) rfl rfl) ?_
          refine ANx.all (rs := [11]) (by kernel_rfl) rfl ⟨?_, trivial⟩
          refine Stpx.eff rfl rfl (Eff.yld (Yld.load Tryd.isAgg2 rfl rfl) rfl rfl) ?_
          refine ANx.all (rs := [16]) (by kernel_rfl) rfl ⟨?_, trivial⟩
          refine Stpx.eff rfl rfl (Eff.buildSlice (rows := [[_], [_], [_], [_]]) 0 Tryd.underlying28 ty2 rfl rfl rfl rfl rfl rfl rfl rfl rfl) ?_
          refine ANx.all (rs := [17]) (by kernel_rfl) rfl ⟨?_, trivial⟩
          refine Stpx.eff rfl rfl (Eff.yld (Yld.call rfl rfl Tryd.call155 rfl rfl rfl (spec_l01List_c (l := sessL x) (by simp [sessL]) (by assumption)) rfl) rfl rfl) ?_
          refine ANx.take 18 rfl (by kernel_rfl) (by kernel_rfl) (by kernel_rfl) rfl rfl rfl (YldA.assign rfl) ?_
          exact ANx.doneC () (by kernel_rfl) ⟨rfl, trivial⟩ ⟨rfl, trivial⟩ ⟨rfl, trivial⟩ trivial
        · -- 11
          refine Stpx.eff rfl rfl (Eff.yld (Yld.load Tryd.isAgg2 rfl rfl) rfl rfl) ?_
          refine ANx.all (rs := [7]) (by kernel_rfl) rfl ⟨?_, trivial⟩
          refine Stpx.eff rfl rfl (Eff.yld (Yld.load Tryd.isAgg2 rfl rfl) rfl rfl) ?_
          refine ANx.all (rs := [16]) (by kernel_rfl) rfl ⟨?_, trivial⟩
          refine Stpx.eff rfl rfl (Eff.buildSlice (rows := [[_], [_], [_], [_]]) 0 Tryd.underlying28 ty2 rfl rfl rfl rfl rfl rfl rfl rfl rfl) ?_
          refine ANx.all (rs := [17]) (by kernel_rfl) rfl ⟨?_, trivial⟩
          refine Stpx.eff rfl rfl (Eff.yld (Yld.call rfl rfl Tryd.call155 rfl rfl rfl (spec_l01List_c (l := sessL x) (by simp [sessL]) (by assumption)) rfl) rfl rfl) ?_
          refine ANx.take 18 rfl (by kernel_rfl) (by kernel_rfl) (by kernel_rfl) rfl rfl rfl (YldA.assign rfl) ?_
          exact ANx.doneC () (by kernel_rfl) ⟨rfl, trivial⟩ ⟨rfl, trivial⟩ ⟨rfl, trivial⟩ trivial
      · -- 7
        refine Stpx.eff rfl rfl (Eff.yld (Yld.load Tryd.isAgg2 rfl rfl) rfl rfl) ?_
        refine ANx.all (rs := [3, 11]) (by kernel_rfl) rfl ⟨?_, ?_, trivial⟩
        · -- 3
          refine Stpx.eff rfl rfl (Eff.yld (Yld.load Tryd.isAgg2 rfl rfl) rfl rfl) ?_
          refine ANx.all (rs := [11]) (by kernel_rfl) rfl ⟨?_, trivial⟩
          refine Stpx.eff rfl rfl (Eff.yld (Yld.load Tryd.isAgg2 rfl rfl) rfl rfl) ?_
          refine ANx.all (rs := [16]) (by kernel_rfl) rfl ⟨?_, trivial⟩
          refine Stpx.eff rfl rfl (Eff.buildSlice (rows := [[_], [_], [_], [_]]) 0 Tryd.underlying28 ty2 rfl rfl rfl rfl rfl rfl rfl rfl rfl) ?_
          refine ANx.all (rs := [17]) (by kernel_rfl) rfl ⟨?_, trivial⟩
          refine Stpx.eff rfl rfl (Eff.yld (Yld.call rfl rfl Tryd.call155 rfl rfl rfl (spec_l01List_c (l := sessL x) (by simp [sessL]) (by assumption)) rfl) rfl rfl) ?_
          refine ANx.take 18 rfl (by kernel_rfl) (by kernel_rfl) (by kernel_rfl) rfl rfl rfl (YldA.assign rfl) ?_
          exact ANx.doneC () (by kernel_rfl) ⟨rfl, trivial⟩ ⟨rfl, trivial⟩ ⟨rfl, trivial⟩ trivial
        · -- 11
          refine Stpx.eff rfl rfl (Eff.yld (Yld.load Tryd.isAgg2 rfl rfl) rfl rfl) ?_
          refine ANx.all (rs := [3]) (by kernel_rfl) rfl ⟨?_, trivial⟩
          refine Stpx.eff rfl rfl (Eff.yld (Yld.load Tryd.isAgg2 rfl rfl) rfl rfl) ?_
          refine ANx.all (rs := [16]) (by kernel_rfl) rfl ⟨?_, trivial⟩
          refine Stpx.eff rfl rfl (Eff.buildSlice (rows := [[_], [_], [_], [_]]) 0 Tryd.underlying28 ty2 rfl rfl rfl rfl rfl rfl rfl rfl rfl) ?_
          refine ANx.all (rs := [17]) (by kernel_rfl) rfl ⟨?_, trivial⟩
          refine Stpx.eff rfl rfl (Eff.yld (Yld.call rfl rfl Tryd.call155 rfl rfl rfl (spec_l01List_c (l := sessL x) (by simp [sessL]) (by assumption)) rfl) rfl rfl) ?_
          refine ANx.take 18 rfl (by kernel_rfl) (by kernel_rfl) (by kernel_rfl) rfl rfl rfl (YldA.assign rfl) ?_
          exact ANx.doneC () (by kernel_rfl) ⟨rfl, trivial⟩ ⟨rfl, trivial⟩ ⟨rfl, trivial⟩ trivial
      · -- 11
        refine Stpx.eff rfl rfl (Eff.yld (Yld.load Tryd.isAgg2 rfl rfl) rfl rfl) ?_
        refine ANx.all (rs := [3, 7]) (by kernel_rfl) rfl ⟨?_, ?_, trivial⟩
        · -- 3
          refine Stpx.eff rfl rfl (Eff.yld (Yld.load Tryd.isAgg2 rfl rfl) rfl rfl) ?_
          refine ANx.all (rs := [7]) (by kernel_rfl) rfl ⟨?_, trivial⟩
          refine Stpx.eff rfl rfl (Eff.yld (Yld.load Tryd.isAgg2 rfl rfl) rfl rfl) ?_
          refine ANx.all (rs := [16]) (by kernel_rfl) rfl ⟨?_, trivial⟩
          refine Stpx.eff rfl rfl (Eff.buildSlice (rows := [[_], [_], [_], [_]]) 0 Tryd.underlying28 ty2 rfl rfl rfl rfl rfl rfl rfl rfl rfl) ?_
          refine ANx.all (rs := [17]) (by kernel_rfl) rfl ⟨?_, trivial⟩
          refine Stpx.eff rfl rfl (Eff.yld (Yld.call rfl rfl Tryd.call155 rfl rfl rfl (spec_l01List_c (l := sessL x) (by simp [sessL]) (by assumption)) rfl) rfl rfl) ?_
          refine ANx.take 18 rfl (by kernel_rfl) (by kernel_rfl) (by kernel_rfl) rfl rfl rfl (YldA.assign rfl) ?_
          exact ANx.doneC () (by kernel_rfl) ⟨rfl, trivial⟩ ⟨rfl, trivial⟩ ⟨rfl, trivial⟩ trivial
        · -- 7
          refine Stpx.eff rfl rfl (Eff.yld (Yld.load Tryd.isAgg2 rfl rfl) rfl rfl) ?_
          refine ANx.all (rs := [3]) (by kernel_rfl) rfl ⟨?_, trivial⟩
          refine Stpx.eff rfl rfl (Eff.yld (Yld.load Tryd.isAgg2 rfl rfl) rfl rfl) ?_
          refine ANx.all (rs := [16]) (by kernel_rfl) rfl ⟨?_, trivial⟩
          refine Stpx.eff rfl rfl (Eff.buildSlice (rows := [[_], [_], [_], [_]]) 0 Tryd.underlying28 ty2 rfl rfl rfl rfl rfl rfl rfl rfl rfl) ?_
          refine ANx.all (rs := [17]) (by kernel_rfl) rfl ⟨?_, trivial⟩
          refine Stpx.eff rfl rfl (Eff.yld (Yld.call rfl rfl Tryd.call155 rfl rfl rfl (spec_l01List_c (l := sessL x) (by simp [sessL]) (by assumption)) rfl) rfl rfl) ?_
          refine ANx.take 18 rfl (by kernel_rfl) (by kernel_rfl) (by kernel_rfl) rfl rfl rfl (YldA.assign rfl) ?_
          exact ANx.doneC () (by kernel_rfl) ⟨rfl, trivial⟩ ⟨rfl, trivial⟩ ⟨rfl, trivial⟩ trivial
  · -- behind
    rintro y9
    refine Pure.ret Tryd.results93 (RVs.cons (RV.tmp rfl) RVs.nil) rfl ?_
    rfl

theorem spec_SessionText_c {x : Session} :
    Pure Tryd.prog 32 [.agg (encSession x)] (.v (str (sessText x))) := by
  refine Pure.intro Tryd.func32 rfl Tryd.ntmps32 rfl rfl (fun w => ?_)
  refine AC.seq ?_
  refine AC.region ?_
  refine AO.box 0 rfl rfl rfl rfl rfl ?_
  refine AO.yld _ (Yld.assign rfl) rfl rfl rfl ?_
  refine AO.nil ?_
  refine AC.seq ?_
  refine AC.seq ?_
  refine AC.region ?_
  refine AO.yld _ (Yld.call rfl rfl Tryd.call92 rfl rfl rfl (spec_l28Session_c) rfl) rfl rfl rfl ?_
  refine AO.yld _ (Yld.not rfl) rfl rfl rfl ?_
  refine AO.nil ?_
  refine AC.cond _ rfl (fun c4 => ?_) (fun c4 => ?_)
  · -- c4 True
    have hno : ¬ okSession x = true := by simpa using c4
    refine AC.seq ?_
    refine AC.region ?_
    refine AO.yld _ (Yld.assign rfl) rfl rfl rfl ?_
    refine AO.nil ?_
    refine Pure.ret Tryd.results32 (RVs.cons (RV.tmp rfl) RVs.nil) rfl ?_
    first | (unfold sessText; rw [if_pos hok]; first | done | rfl) | (unfold sessText; rw [if_neg hno]; rfl)
  · -- c4 False
    have hok : okSession x = true := by simpa using c4
    have hlm := sess_lim hok
    refine AC.skip ?_
    refine AC.seq ?_
    refine AC.region ?_
    refine AO.yld _ (Yld.call rfl rfl Tryd.call93 rfl rfl rfl (spec_l28Text_c (by assumption)) rfl) rfl rfl rfl ?_
    refine AO.yld _ (Yld.assign rfl) rfl rfl rfl ?_
    refine AO.nil ?_
    refine Pure.ret Tryd.results32 (RVs.cons (RV.tmp rfl) RVs.nil) rfl ?_
    first | (unfold sessText; rw [if_pos hok]; first | done | rfl) | (unfold sessText; rw [if_neg hno]; rfl)

theorem impl_SessionText_c {x : Session} :
    FnE (α := Unit) Tryd.prog 34 [.p (.agg (encSession x))] [(0, powR Tryd.prog)] [0] (fun _ => True) (fun _ => .p (.v (str (sessText x)))) (fun _ => [(0, powR Tryd.prog)]) := by
  refine FnE.intro Tryd.func34 rfl Tryd.ntmps34 rfl rfl (fun w0 F0 η φ w => ?_)
  refine AC.seq ?_
  refine AC.region ?_
  refine AO.box 1 rfl rfl rfl rfl rfl ?_
  refine AO.yld _ (Yld.assign rfl) rfl rfl rfl ?_
  refine AO.nil ?_
  refine AC.seq ?_
  refine AC.seq ?_
  refine AC.region ?_
  refine AO.yld _ (Yld.loadAgg Tryd.isAgg64 Tryd.sizeOf64 rfl rfl rfl rfl) rfl rfl rfl ?_
  refine AO.yld _ (Yld.call rfl rfl Tryd.call94 rfl rfl rfl (impl_validSession_c) rfl) rfl rfl rfl ?_
  refine AO.yld _ (Yld.not rfl) rfl rfl rfl ?_
  refine AO.nil ?_
  refine AC.cond _ rfl (fun c5 => ?_) (fun c5 => ?_)
  · -- c5 True
    have hno : ¬ okSession x = true := by simpa using c5
    refine AC.seq ?_
    refine AC.region ?_
    refine AO.yld _ (Yld.assign rfl) rfl rfl rfl ?_
    refine AO.nil ?_
    refine FnE.ret () [0] [0] Tryd.results34 (RVs.cons (RV.tmp rfl) RVs.nil) rfl rfl rfl ?_ ?_ ⟨⟨_, rfl, ?_⟩, trivial⟩
    · -- holds
      trivial
    · -- value
      first | (unfold sessText; rw [if_pos hok]; first | done | rfl) | (unfold sessText; rw [if_neg hno]; rfl)
    · -- thing 0
      first | rfl | exact vecE (by first | rfl | (simp_all; done) | grind) | (simp_all; done)
  · -- c5 False
    have hok : okSession x = true := by simpa using c5
    have hlm := sess_lim hok
    refine AC.skip ?_
    refine AC.seq ?_
    refine AC.region ?_
    refine AO.yld _ (Yld.fieldAddr Tryd.underlying64 rfl rfl Tryd.sizeOf2 rfl rfl rfl) rfl rfl rfl ?_
    refine AO.yld _ (Yld.load Tryd.isAgg2 rfl rfl) rfl rfl rfl ?_
    refine AO.yld _ (Yld.fieldAddr Tryd.underlying64 rfl rfl Tryd.sizeOf2 rfl rfl rfl) rfl rfl rfl ?_
    refine AO.yld _ (Yld.load Tryd.isAgg2 rfl rfl) rfl rfl rfl ?_
    refine AO.yld _ (Yld.fieldAddr Tryd.underlying64 rfl rfl Tryd.sizeOf2 rfl rfl rfl) rfl rfl rfl ?_
    refine AO.yld _ (Yld.load Tryd.isAgg2 rfl rfl) rfl rfl rfl ?_
    refine AO.yld _ (Yld.fieldAddr Tryd.underlying64 rfl rfl Tryd.sizeOf2 rfl rfl rfl) rfl rfl rfl ?_
    refine AO.yld _ (Yld.load Tryd.isAgg2 rfl rfl) rfl rfl rfl ?_
    refine AO.buildSlice (rows := [[_], [_], [_], [_]]) 2 Tryd.underlying28 ty2 rfl rfl rfl rfl rfl rfl rfl rfl rfl ?_
    refine AO.freeze 2 rfl ?_
    refine AO.callW (wantedN rfl) [0] [0] [0] rfl rfl Tryd.call95 rfl (impl_ListText_c (l := sessL x) (by simp [sessL]) (by assumption)) (.own rfl) rfl (fun _ => rfl) ⟨rfl, trivial⟩ rfl (fun _ => rfl) (fun _ => rfl) (fun _ _ => ?_)
    refine AO.yld _ (Yld.assign rfl) rfl rfl rfl ?_
    refine AO.nil ?_
    refine FnE.ret () [0] [0] Tryd.results34 (RVs.cons (RV.tmp rfl) RVs.nil) rfl rfl rfl ?_ ?_ ⟨⟨_, rfl, ?_⟩, trivial⟩
    · -- holds
      trivial
    · -- value
      first | (unfold sessText; rw [if_pos hok]; first | done | rfl) | (unfold sessText; rw [if_neg hno]; rfl)
    · -- thing 0
      first | rfl | exact vecE (by first | rfl | (simp_all; done) | grind) | (simp_all; done)

end Go.Proofs.YtdgjlkdcklfieaaDoor
