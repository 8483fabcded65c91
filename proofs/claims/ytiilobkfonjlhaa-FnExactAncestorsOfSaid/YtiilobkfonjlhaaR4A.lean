/- Contracts of functions of the program, each by a walk of its text in the calculus V. -/
import Derived.Test.YtiilobkfonjlhaaR3C
import Derived.Test.YtiilobkfonjlhaaD14
set_option linter.all false
set_option linter.unusedSimpArgs false
set_option linter.unnecessarySimpa false
set_option linter.unusedVariables false
namespace Go.Proofs.Ytiilobkfonjlhaa
open Go Go.V

theorem spec_LoadPlan_c {ms xs : List NV} (hm : ms.length ≤ 1048576) (hms : ∀ x ∈ ms, x.name.length ≤ 1048576) (hn : xs.length ≤ 1048576) (hs : ∀ x ∈ xs, x.name.length ≤ 1048576) {b : Int} :
    FnE (α := Unit) Try.prog 37 [.p (.sl 2 (ms.map encNV)), .p (.sl 2 (xs.map encNV)), .p (.v (.int .i64 b))] [] [] (fun _ => True) (fun _ => .tup [.h 0, .p (.v (.int .i64 (loadPlan ms xs b).2))]) (fun _ => [(0, .vec 2 1 ((loadPlan ms xs b).1.map encI))]) := by
  refine FnE.intro Try.func37 rfl Try.ntmps37 rfl rfl (fun w0 F0 η φ w => ?_)
  refine AC.seq ?_
  refine AC.region ?_
  refine AO.yld _ (Yld.assign rfl) rfl rfl rfl ?_
  refine AO.yld _ (Yld.assign rfl) rfl rfl rfl ?_
  refine AO.nil ?_
  refine AC.seq ?_
  refine AC.region ?_
  refine AO.yld _ (Yld.move rfl) rfl rfl rfl ?_
  refine AO.yld _ (Yld.move rfl) rfl rfl rfl ?_
  refine AO.yld _ (Yld.move rfl) rfl rfl rfl ?_
  refine AO.yld _ (Yld.call rfl rfl Try.call95 rfl rfl rfl (spec_l25Ask_c (by first | assumption | omega) (by assumption) (by first | assumption | omega) (by assumption)) rfl) rfl rfl rfl ?_
  refine AO.yld _ (Yld.assign rfl) rfl rfl rfl ?_
  refine AO.nil ?_
  refine AC.seq ?_
  refine AC.seq ?_
  refine AC.region ?_
  refine AO.yld _ (Yld.move rfl) rfl rfl rfl ?_
  refine AO.yld _ (Yld.int rfl rfl rfl) rfl rfl rfl ?_
  refine AO.nil ?_
  refine AC.cond _ rfl (fun c14 => ?_) (fun c14 => ?_)
  · -- c14 True
    refine AC.seq ?_
    refine AC.region ?_
    refine AO.yld _ (Yld.move rfl) rfl rfl rfl ?_
    refine AO.yld _ (Yld.assign rfl) rfl rfl rfl ?_
    refine AO.yld _ (Yld.assign rfl) rfl rfl rfl ?_
    refine AO.nil ?_
    refine AC.nilVec 6 0 2 1 rfl rfl ?_
    refine FnE.ret () [0] [0] Try.results37 (RVs.cons (RV.tmp rfl) (RVs.cons (RV.tmp rfl) RVs.nil)) rfl rfl rfl ?_ ?_ ⟨⟨_, rfl, ?_⟩, trivial⟩
    · -- holds
      trivial
    · -- value
      refine tupE ?_; first | (simp_all [loadPlan]; done) | grind [loadPlan]
    · -- thing 0
      refine vecE ?_; first | (simp_all [loadPlan]; done) | grind [loadPlan]
  · -- c14 False
    have hk0 : askNeeds ms xs b = 0 := by first | (simpa using c14) | (exact absurd c14 (by decide))
    obtain ⟨hok, hb⟩ := ask_needs hk0
    have hl16 := (needs_ok hok).2.2
    refine AC.skip ?_
    refine AC.seq ?_
    refine AC.region ?_
    refine AO.yld _ (Yld.move rfl) rfl rfl rfl ?_
    refine AO.yld _ (Yld.move rfl) rfl rfl rfl ?_
    refine AO.yld _ (Yld.move rfl) rfl rfl rfl ?_
    refine AO.callW (wantedN rfl) [0] [] [0] rfl rfl Try.call96 rfl (spec_l25Plan_c (by first | assumption | omega) (by assumption) (by omega) (by first | assumption | omega)) (.flat (.view rfl rfl (.view rfl rfl (.view rfl rfl .nil))) (fun _ => by simp [AV.Flat, AV.FlatL, PV.Flat, PV.FlatL]) (fun _ => ⟨flat_map flatI _, trivial⟩)) rfl (fun _ => rfl) trivial rfl (fun _ => rfl) (fun _ => rfl) (fun _ _ => ?_)
    refine AO.yld _ (Yld.assign rfl) rfl rfl rfl ?_
    refine AO.yld _ (Yld.assign rfl) rfl rfl rfl ?_
    refine AO.nil ?_
    refine FnE.ret () [0] [0] Try.results37 (RVs.cons (RV.tmp rfl) (RVs.cons (RV.tmp rfl) RVs.nil)) rfl rfl rfl ?_ ?_ ⟨⟨_, rfl, ?_⟩, trivial⟩
    · -- holds
      trivial
    · -- value
      refine tupE ?_; first | (simp_all [loadPlan]; done) | grind [loadPlan]
    · -- thing 0
      refine vecE ?_; first | (simp_all [loadPlan]; done) | grind [loadPlan]

theorem impl_LoadPlan_c {ms xs : List NV} (hm : ms.length ≤ 1048576) (hms : ∀ x ∈ ms, x.name.length ≤ 1048576) (hn : xs.length ≤ 1048576) (hs : ∀ x ∈ xs, x.name.length ≤ 1048576) {b : Int} :
    FnE (α := Unit) Try.prog 40 [.p (.sl 2 (ms.map encNV)), .p (.sl 2 (xs.map encNV)), .p (.v (.int .i64 b))] [] [] (fun _ => True) (fun _ => .tup [.h 0, .p (.v (.int .i64 (loadPlan ms xs b).2))]) (fun _ => [(0, .vec 2 1 ((loadPlan ms xs b).1.map encI))]) := by
  have hM : (xs.map encNV).length = xs.length := List.length_map ..
  refine FnE.intro Try.func40 rfl Try.ntmps40 rfl rfl (fun w0 F0 η φ w => ?_)
  refine AC.seq ?_
  refine AC.region ?_
  refine AO.yld _ (Yld.assign rfl) rfl rfl rfl ?_
  refine AO.yld _ (Yld.assign rfl) rfl rfl rfl ?_
  refine AO.nil ?_
  refine AC.seq ?_
  refine AC.seq ?_
  refine AC.region ?_
  refine AO.yld _ (Yld.move rfl) rfl rfl rfl ?_
  refine AO.yld _ (Yld.move rfl) rfl rfl rfl ?_
  refine AO.yld _ (Yld.move rfl) rfl rfl rfl ?_
  refine AO.yld _ (Yld.call rfl rfl Try.call99 rfl rfl rfl (impl_checkNeeds_c (by first | assumption | omega) (by assumption) (by first | assumption | omega) (by assumption)) rfl) rfl rfl rfl ?_
  refine AO.yld _ (Yld.assign rfl) rfl rfl rfl ?_
  refine AO.nil ?_
  refine AC.seq ?_
  refine AC.region ?_
  refine AO.yld _ (Yld.move rfl) rfl rfl rfl ?_
  refine AO.yld _ (Yld.int rfl rfl rfl) rfl rfl rfl ?_
  refine AO.nil ?_
  refine AC.cond _ rfl (fun c18 => ?_) (fun c18 => ?_)
  · -- c18 True
    refine AC.seq ?_
    refine AC.region ?_
    refine AO.yld _ (Yld.move rfl) rfl rfl rfl ?_
    refine AO.yld _ (Yld.assign rfl) rfl rfl rfl ?_
    refine AO.yld _ (Yld.assign rfl) rfl rfl rfl ?_
    refine AO.nil ?_
    refine AC.nilVec 6 0 2 1 rfl rfl ?_
    refine FnE.ret () [0] [0] Try.results40 (RVs.cons (RV.tmp rfl) (RVs.cons (RV.tmp rfl) RVs.nil)) rfl rfl rfl ?_ ?_ ⟨⟨_, rfl, ?_⟩, trivial⟩
    · -- holds
      trivial
    · -- value
      refine tupE ?_; first | (simp_all [loadPlan]; done) | grind [loadPlan]
    · -- thing 0
      refine vecE ?_; first | (simp_all [loadPlan]; done) | (rw [loadPlan, if_pos hk0]; have h9 := filled_end (enc := encI) (z := [.v (.int .i64 0)]) (xs := planL ms xs b xs.length); rw [planL_len] at h9; exact h9)
  · -- c18 False
    have hk0 : askNeeds ms xs b = 0 := by first | (simpa using c18) | (exact absurd c18 (by decide))
    obtain ⟨hok, hb⟩ := ask_needs hk0
    have hl16 := (needs_ok hok).2.2
    refine AC.skip ?_
    refine AC.seq ?_
    refine AC.region ?_
    refine AO.yld _ (Yld.move rfl) rfl rfl rfl ?_
    refine AO.yld _ (Yld.len Try.underlying57 rfl rfl) rfl rfl rfl ?_
    refine AO.make 0 Try.underlying31 ty2 rfl rfl rfl rfl rfl (Nat.le_refl _) (by rw [hM]; omega) (by rw [hM]; omega) rfl rfl ?_
    refine AO.yld _ (Yld.assign rfl) rfl rfl rfl ?_
    refine AO.nil ?_
    refine AC.seq ?_
    refine AC.region ?_
    refine AO.yld _ (Yld.assign rfl) rfl rfl rfl ?_
    refine AO.nil ?_
    refine AC.seq ?_
    refine AC.seq ?_
    refine AC.region ?_
    refine AO.yld _ (Yld.move rfl) rfl rfl rfl ?_
    refine AO.yld _ (Yld.len Try.underlying57 rfl rfl) rfl rfl rfl ?_
    refine AO.yld _ (Yld.move rfl) rfl rfl rfl ?_
    refine AO.nil ?_
    refine AC.block ?_
    refine AC.loopC [(0, _), (2, _), (6, _), (7, _), (9, _), (23, _), (24, _)] [(900, _)] (fun (k : Nat) => [(25, .p (.v (.int .i64 (k : Int)))), (10, .p (.v (.int .i64 (sumTo (loadT ms b) xs k)))), (9, .h 0)]) (fun (k : Nat) => [(0, .vec 2 1 (filled encI [.v (.int .i64 0)] (planL ms xs b xs.length) k))]) (fun (k : Nat) => k ≤ xs.length) (fun (k : Nat) => xs.length - k) 0 ⟨rfl, rfl, rfl, rfl, rfl, rfl, rfl, trivial⟩ ⟨rfl, trivial⟩ ⟨rfl, rfl, rfl, trivial⟩ ⟨by rw [filled_zero, planL_len, ← hM]; rfl, trivial⟩ ?_ (fun k hJ => ?_)
    · exact Nat.zero_le _
    · -- round
      refine AC.seq ?_
      refine AC.region ?_
      refine AO.yld _ (Yld.int rfl rfl rfl) rfl rfl rfl ?_
      refine AO.nil ?_
      refine AC.seq ?_
      refine AC.cond _ rfl (fun c26 => ?_) (fun c26 => ?_)
      · -- c26 True
        have hk := lt_of_decM c26
        obtain ⟨x, hx⟩ := get_some hk
        have hrow := map_row (enc := encNV) hx
        have hlx := loadT_lim (needs_ok hok).1 hb.1 x
        have hsl := lookup_lim (needs_ok hok).1 x.name
        have hsk := sums_lim (xs := xs) (needs_ok hok).1 hb.1 k
        have hsk1 := sums_lim (xs := xs) (needs_ok hok).1 hb.1 (k + 1)
        have hss := sumTo_succ (f := loadT ms b) hx
        have hld : loadT ms b x = (1000 * lookup ms x.name + b - 1) / b := rfl
        have hnl := need_lim (allI_at (needs_ok hok).2.1 hx)
        have hll := lateTo_lim hok hb.1 k
        have hl16 := (needs_ok hok).2.2
        refine AC.skip ?_
        refine AC.seq ?_
        refine AC.block ?_
        refine AC.seq ?_
        refine AC.region ?_
        refine AO.yld _ (Yld.move rfl) rfl rfl rfl ?_
        refine AO.yld _ (Yld.indexSl Try.underlying57 Try.sizeOf126 rfl rfl hrow rfl) rfl rfl rfl ?_
        refine AO.yld _ (Yld.loadAgg Try.isAgg126 Try.sizeOf126 rfl rfl rfl rfl) rfl rfl rfl ?_
        refine AO.alloc 1 Try.zeroValue126 rfl rfl rfl ?_
        refine AO.yld _ (Yld.assign rfl) rfl rfl rfl ?_
        refine AO.store Try.sizeOf126 rfl rfl rfl rfl rfl rfl ?_
        refine AO.nil ?_
        refine AC.seq ?_
        refine AC.region ?_
        refine AO.yld _ (Yld.move rfl) rfl rfl rfl ?_
        refine AO.yld _ (Yld.move rfl) rfl rfl rfl ?_
        refine AO.yld _ (Yld.move rfl) rfl rfl rfl ?_
        refine AO.yld _ (Yld.indexVec Try.underlying31 Try.sizeOf2 rfl rfl rfl rfl (by rw [filled_length (by rw [planL_len]; omega), planL_len]; exact hk)) rfl rfl rfl ?_
        refine AO.store Try.sizeOf2 rfl rfl rfl rfl rfl (store_el rfl (filled_get (by rw [planL_len]; exact hk)) rfl rfl) ?_
        refine AO.nil ?_
        refine AC.region ?_
        refine AO.yld _ (Yld.move rfl) rfl rfl rfl ?_
        refine AO.yld _ (Yld.move rfl) rfl rfl rfl ?_
        refine AO.yld _ (Yld.fieldAddr Try.underlying126 rfl rfl Try.sizeOf9 rfl rfl rfl) rfl rfl rfl ?_
        refine AO.yld _ (Yld.load Try.isAgg9 rfl rfl) rfl rfl rfl ?_
        refine AO.yld _ (Yld.call rfl rfl Try.call101 rfl rfl rfl (impl_sizeOf_c (by first | assumption | omega)) rfl) rfl rfl rfl ?_
        refine AO.yld _ (Yld.mul rfl rfl (by omega) (by omega)) rfl rfl rfl ?_
        refine AO.yld _ (Yld.move rfl) rfl rfl rfl ?_
        refine AO.yld _ (Yld.call rfl rfl Try.call100 rfl rfl rfl (impl_quotientUp_c (by omega) (by omega) (by omega)) rfl) rfl rfl rfl ?_
        refine AO.yld _ (Yld.add rfl rfl (by omega) (by omega)) rfl rfl rfl ?_
        refine AO.yld _ (Yld.assign rfl) rfl rfl rfl ?_
        refine AO.nil ?_
        refine AC.mark ?_
        refine AC.region ?_
        refine AO.yld _ (Yld.add rfl rfl (by omega) (by omega)) rfl rfl rfl ?_
        refine AO.yld _ (Yld.move rfl) rfl rfl rfl ?_
        refine AO.nil ?_
        refine AC.back ⟨k + 1, ?_, ?_, ⟨?_, ?_, ?_, trivial⟩, ⟨?_, trivial⟩, ⟨rfl, rfl, rfl, rfl, rfl, rfl, rfl, trivial⟩, ⟨rfl, trivial⟩⟩
        · exact hk
        · omega
        · rfl
        · show some (AV.p (PV.v (Value.int IntKind.i64 _))) = _; rw [sumTo_succ hx]; rfl
        · rfl
        · rw [← filled_set (planL_get hk)]; rfl
      · -- c26 False
        obtain rfl : k = xs.length := by have := ge_of_decM c26; omega
        refine AC.exit rfl ?_
        refine AC.seq ?_
        refine AC.region ?_
        refine AO.yld _ (Yld.move rfl) rfl rfl rfl ?_
        refine AO.yld _ (Yld.assign rfl) rfl rfl rfl ?_
        refine AO.yld _ (Yld.assign rfl) rfl rfl rfl ?_
        refine AO.nil ?_
        refine FnE.ret () [0] [0] Try.results40 (RVs.cons (RV.tmp rfl) (RVs.cons (RV.tmp rfl) RVs.nil)) rfl rfl rfl ?_ ?_ ⟨⟨_, rfl, ?_⟩, trivial⟩
        · -- holds
          trivial
        · -- value
          refine tupE ?_; first | (simp_all [loadPlan]; done) | grind [loadPlan]
        · -- thing 0
          refine vecE ?_; first | (simp_all [loadPlan]; done) | (rw [loadPlan, if_pos hk0]; have h9 := filled_end (enc := encI) (z := [.v (.int .i64 0)]) (xs := planL ms xs b xs.length); rw [planL_len] at h9; exact h9)

theorem spec_LatestLoads_c {ms xs : List NV} (hm : ms.length ≤ 1048576) (hms : ∀ x ∈ ms, x.name.length ≤ 1048576) (hn : xs.length ≤ 1048576) (hs : ∀ x ∈ xs, x.name.length ≤ 1048576) {b : Int} :
    FnE (α := Unit) Try.prog 45 [.p (.sl 2 (ms.map encNV)), .p (.sl 2 (xs.map encNV)), .p (.v (.int .i64 b))] [] [] (fun _ => True) (fun _ => .tup [.h 0, .p (.v (.int .i64 (latestLoads ms xs b).2))]) (fun _ => [(0, .vec 2 1 ((latestLoads ms xs b).1.map encI))]) := by
  have hM : (xs.map encNV).length = xs.length := List.length_map ..
  refine FnE.intro Try.func45 rfl Try.ntmps45 rfl rfl (fun w0 F0 η φ w => ?_)
  refine AC.seq ?_
  refine AC.region ?_
  refine AO.yld _ (Yld.assign rfl) rfl rfl rfl ?_
  refine AO.yld _ (Yld.assign rfl) rfl rfl rfl ?_
  refine AO.nil ?_
  refine AC.seq ?_
  refine AC.region ?_
  refine AO.yld _ (Yld.move rfl) rfl rfl rfl ?_
  refine AO.yld _ (Yld.move rfl) rfl rfl rfl ?_
  refine AO.yld _ (Yld.move rfl) rfl rfl rfl ?_
  refine AO.yld _ (Yld.call rfl rfl Try.call95 rfl rfl rfl (spec_l25Ask_c (by first | assumption | omega) (by assumption) (by first | assumption | omega) (by assumption)) rfl) rfl rfl rfl ?_
  refine AO.yld _ (Yld.assign rfl) rfl rfl rfl ?_
  refine AO.nil ?_
  refine AC.seq ?_
  refine AC.seq ?_
  refine AC.region ?_
  refine AO.yld _ (Yld.move rfl) rfl rfl rfl ?_
  refine AO.yld _ (Yld.int rfl rfl rfl) rfl rfl rfl ?_
  refine AO.nil ?_
  refine AC.cond _ rfl (fun c17 => ?_) (fun c17 => ?_)
  · -- c17 True
    refine AC.seq ?_
    refine AC.region ?_
    refine AO.yld _ (Yld.move rfl) rfl rfl rfl ?_
    refine AO.yld _ (Yld.assign rfl) rfl rfl rfl ?_
    refine AO.yld _ (Yld.assign rfl) rfl rfl rfl ?_
    refine AO.nil ?_
    refine AC.nilVec 6 0 2 1 rfl rfl ?_
    refine FnE.ret () [0] [0] Try.results45 (RVs.cons (RV.tmp rfl) (RVs.cons (RV.tmp rfl) RVs.nil)) rfl rfl rfl ?_ ?_ ⟨⟨_, rfl, ?_⟩, trivial⟩
    · -- holds
      trivial
    · -- value
      refine tupE ?_; first | (simp_all [latestLoads]; done) | (rw [latest_good hk0 hJ.2]) | (rw [latest_bad hk0 hneg hj])
    · -- thing 0
      refine vecE ?_; first | (simp_all [latestLoads]; done) | (rw [endRows_end, latest_good hk0 hJ.2]) | (rw [latest_bad hk0 hneg hj]; done) | (rw [latest_bad hk0 hneg hj]; rfl)
  · -- c17 False
    have hk0 : askNeeds ms xs b = 0 := by first | (simpa using c17) | (exact absurd c17 (by decide))
    obtain ⟨hok, hb⟩ := ask_needs hk0
    have hl16 := (needs_ok hok).2.2
    refine AC.skip ?_
    refine AC.seq ?_
    refine AC.region ?_
    refine AO.yld _ (Yld.move rfl) rfl rfl rfl ?_
    refine AO.yld _ (Yld.len Try.underlying57 rfl rfl) rfl rfl rfl ?_
    refine AO.make 0 Try.underlying31 ty2 rfl rfl rfl rfl rfl (Nat.le_refl _) (by rw [hM]; omega) (by rw [hM]; omega) rfl rfl ?_
    refine AO.yld _ (Yld.assign rfl) rfl rfl rfl ?_
    refine AO.nil ?_
    refine AC.seq ?_
    refine AC.region ?_
    refine AO.yld _ (Yld.assign rfl) rfl rfl rfl ?_
    refine AO.nil ?_
    refine AC.seq ?_
    refine AC.seq ?_
    refine AC.region ?_
    refine AO.yld _ (Yld.move rfl) rfl rfl rfl ?_
    refine AO.yld _ (Yld.len Try.underlying57 rfl rfl) rfl rfl rfl ?_
    refine AO.yld _ (Yld.sub rfl rfl (by rw [hM]; omega) (by rw [hM]; omega)) rfl rfl rfl ?_
    refine AO.yld _ (Yld.assign rfl) rfl rfl rfl ?_
    refine AO.nil ?_
    refine AC.block ?_
    refine AC.loopC [(0, _), (1, _), (2, _), (9, _)] [(900, _)] (fun (j : Nat) => [(11, .p (.v (.int .i64 ((xs.length : Int) - 1 - j)))), (10, .p (.v (.int .i64 (endF ms xs b j)))), (9, .h 0)]) (fun (j : Nat) => [(0, .vec 2 1 (endRows ms xs b j))]) (fun (j : Nat) => j ≤ xs.length ∧ endOk ms xs b j = true) (fun (j : Nat) => xs.length - j) 0 ⟨rfl, rfl, rfl, rfl, trivial⟩ ⟨rfl, trivial⟩ ⟨by show some (AV.p (PV.v (Value.int IntKind.i64 _))) = _; rw [hM]; simp, rfl, rfl, trivial⟩ ⟨by rw [endRows_zero, ← hM]; rfl, trivial⟩ ?_ (fun j hJ => ?_)
    · exact ⟨Nat.zero_le _, rfl⟩
    · -- round
      refine AC.seq ?_
      refine AC.seq ?_
      refine AC.region ?_
      refine AO.yld _ (Yld.move rfl) rfl rfl rfl ?_
      refine AO.yld _ (Yld.int rfl rfl rfl) rfl rfl rfl ?_
      refine AO.nil ?_
      refine AC.cond _ rfl (fun c26 => ?_) (fun c26 => ?_)
      · -- c26 True
        have hj : j < xs.length := by have h := c26; simp at h; omega
        obtain ⟨x, hx⟩ := get_some (xs := xs) (k := xs.length - 1 - j) (by omega)
        have hrow := map_row (enc := encNV) hx
        have hlx := loadT_lim (needs_ok hok).1 hb.1 x
        have hsl := lookup_lim (needs_ok hok).1 x.name
        have hnl := need_lim (allI_at (needs_ok hok).2.1 hx)
        have hel := endF_lim hok hb.1 j
        have hes : endF ms xs b (j + 1) = min (endF ms xs b j) x.val - (1000 * lookup ms x.name + b - 1) / b := endF_succ hx
        have hld : loadT ms b x = (1000 * lookup ms x.name + b - 1) / b := rfl
        refine AC.skip ?_
        refine AC.seq ?_
        refine AC.block ?_
        refine AC.seq ?_
        refine AC.draw (by kernel_rfl) (by kernel_rfl) ?_
        refine AO.yld _ (Yld.move rfl) rfl rfl rfl ?_
        refine AO.yld _ (Yld.move rfl) rfl rfl rfl ?_
        refine AO.yld _ (Yld.move rfl) rfl rfl rfl ?_
        refine AO.yld _ (Yld.indexSl Try.underlying57 Try.sizeOf126 rfl rfl hrow (by omega)) rfl rfl rfl ?_
        refine AO.yld _ (Yld.fieldAddr Try.underlying126 rfl rfl Try.sizeOf2 rfl rfl rfl) rfl rfl rfl ?_
        refine AO.yld _ (Yld.load Try.isAgg2 rfl rfl) rfl rfl rfl ?_
        refine AO.yld _ (Yld.call rfl rfl Try.call104 rfl rfl rfl (spec_l00Min_c) rfl) rfl rfl rfl ?_
        refine AO.yld _ (Yld.move rfl) rfl rfl rfl ?_
        refine AO.yld _ (Yld.move rfl) rfl rfl rfl ?_
        refine AO.yld _ (Yld.move rfl) rfl rfl rfl ?_
        refine AO.yld _ (Yld.indexSl Try.underlying57 Try.sizeOf126 rfl rfl hrow (by omega)) rfl rfl rfl ?_
        refine AO.yld _ (Yld.fieldAddr Try.underlying126 rfl rfl Try.sizeOf9 rfl rfl rfl) rfl rfl rfl ?_
        refine AO.yld _ (Yld.load Try.isAgg9 rfl rfl) rfl rfl rfl ?_
        refine AO.yld _ (Yld.call rfl rfl Try.call106 rfl rfl rfl (spec_l25Size_c (by first | assumption | omega)) rfl) rfl rfl rfl ?_
        refine AO.yld _ (Yld.move rfl) rfl rfl rfl ?_
        refine AO.yld _ (Yld.call rfl rfl Try.call105 rfl rfl rfl (spec_l25Load_c (by omega) (by omega) (by omega) (by omega)) rfl) rfl rfl rfl ?_
        refine AO.yld _ (Yld.sub rfl rfl (by omega) (by omega)) rfl rfl rfl ?_
        refine AO.yld _ (Yld.assign rfl) rfl rfl rfl ?_
        refine AO.nil ?_
        refine AC.seq ?_
        refine AC.seq ?_
        refine AC.region ?_
        refine AO.yld _ (Yld.move rfl) rfl rfl rfl ?_
        refine AO.yld _ (Yld.int rfl rfl rfl) rfl rfl rfl ?_
        refine AO.nil ?_
        refine AC.cond _ rfl (fun c47 => ?_) (fun c47 => ?_)
        · -- c47 True
          have hneg : endF ms xs b (j + 1) < 0 := by rw [hes]; simpa using c47
          refine AC.seq ?_
          refine AC.region ?_
          refine AO.yld _ (Yld.assign rfl) rfl rfl rfl ?_
          refine AO.yld _ (Yld.assign rfl) rfl rfl rfl ?_
          refine AO.nil ?_
          refine AC.nilVec 6 1 2 1 rfl rfl ?_
          refine FnE.ret () [1] [0] Try.results45 (RVs.cons (RV.tmp rfl) (RVs.cons (RV.tmp rfl) RVs.nil)) rfl rfl rfl ?_ ?_ ⟨⟨_, rfl, ?_⟩, trivial⟩
          · -- holds
            trivial
          · -- value
            refine tupE ?_; first | (simp_all [latestLoads]; done) | (rw [latest_good hk0 hJ.2]) | (rw [latest_bad hk0 hneg hj])
          · -- thing 0
            refine vecE ?_; first | (simp_all [latestLoads]; done) | (rw [endRows_end, latest_good hk0 hJ.2]) | (rw [latest_bad hk0 hneg hj]; done) | (rw [latest_bad hk0 hneg hj]; rfl)
        · -- c47 False
          refine AC.skip ?_
          refine AC.region ?_
          refine AO.yld _ (Yld.move rfl) rfl rfl rfl ?_
          refine AO.yld _ (Yld.move rfl) rfl rfl rfl ?_
          refine AO.yld _ (Yld.move rfl) rfl rfl rfl ?_
          refine AO.yld _ (Yld.indexVec Try.underlying31 Try.sizeOf2 rfl rfl rfl (show _ = ((xs.length - 1 - j : Nat) : Int) by omega) (by rw [endRows_len _ _ _ (by omega)]; omega)) rfl rfl rfl ?_
          refine AO.store Try.sizeOf2 rfl rfl rfl rfl rfl (store_el rfl (endRows_get hj) rfl rfl) ?_
          refine AO.nil ?_
          refine AC.mark ?_
          refine AC.region ?_
          refine AO.yld _ (Yld.move rfl) rfl rfl rfl ?_
          refine AO.yld _ (Yld.sub rfl rfl (by omega) (by omega)) rfl rfl rfl ?_
          refine AO.yld _ (Yld.assign rfl) rfl rfl rfl ?_
          refine AO.nil ?_
          refine AC.back ⟨j + 1, ?_, ?_, ⟨?_, ?_, ?_, trivial⟩, ⟨?_, trivial⟩, ⟨rfl, rfl, rfl, rfl, trivial⟩, ⟨rfl, trivial⟩⟩
          · exact ⟨hj, by simp only [endOk, hJ.2, Bool.true_and, decide_eq_true_eq]; have h9 := c47; rw [hes]; simp at h9; omega⟩
          · omega
          · show some (AV.p (PV.v (Value.int IntKind.i64 _))) = _; congr 4 <;> omega
          · show some (AV.p (PV.v (Value.int IntKind.i64 _))) = _; rw [hes]; try rfl
          · rfl
          · rw [← endRows_set hj, hes]; rfl
      · -- c26 False
        obtain rfl : j = xs.length := by have h := c26; simp at h; omega
        refine AC.exit rfl ?_
        refine AC.seq ?_
        refine AC.region ?_
        refine AO.yld _ (Yld.move rfl) rfl rfl rfl ?_
        refine AO.yld _ (Yld.assign rfl) rfl rfl rfl ?_
        refine AO.yld _ (Yld.assign rfl) rfl rfl rfl ?_
        refine AO.nil ?_
        refine FnE.ret () [0] [0] Try.results45 (RVs.cons (RV.tmp rfl) (RVs.cons (RV.tmp rfl) RVs.nil)) rfl rfl rfl ?_ ?_ ⟨⟨_, rfl, ?_⟩, trivial⟩
        · -- holds
          trivial
        · -- value
          refine tupE ?_; first | (simp_all [latestLoads]; done) | (rw [latest_good hk0 hJ.2]) | (rw [latest_bad hk0 hneg hj])
        · -- thing 0
          refine vecE ?_; first | (simp_all [latestLoads]; done) | (rw [endRows_end, latest_good hk0 hJ.2]) | (rw [latest_bad hk0 hneg hj]; done) | (rw [latest_bad hk0 hneg hj]; rfl)

theorem impl_LatestLoads_c {ms xs : List NV} (hm : ms.length ≤ 1048576) (hms : ∀ x ∈ ms, x.name.length ≤ 1048576) (hn : xs.length ≤ 1048576) (hs : ∀ x ∈ xs, x.name.length ≤ 1048576) {b : Int} :
    FnE (α := Unit) Try.prog 46 [.p (.sl 2 (ms.map encNV)), .p (.sl 2 (xs.map encNV)), .p (.v (.int .i64 b))] [] [] (fun _ => True) (fun _ => .tup [.h 0, .p (.v (.int .i64 (latestLoads ms xs b).2))]) (fun _ => [(0, .vec 2 1 ((latestLoads ms xs b).1.map encI))]) := by
  have hM : (xs.map encNV).length = xs.length := List.length_map ..
  refine FnE.intro Try.func46 rfl Try.ntmps46 rfl rfl (fun w0 F0 η φ w => ?_)
  refine AC.seq ?_
  refine AC.region ?_
  refine AO.yld _ (Yld.assign rfl) rfl rfl rfl ?_
  refine AO.yld _ (Yld.assign rfl) rfl rfl rfl ?_
  refine AO.nil ?_
  refine AC.seq ?_
  refine AC.seq ?_
  refine AC.region ?_
  refine AO.yld _ (Yld.move rfl) rfl rfl rfl ?_
  refine AO.yld _ (Yld.move rfl) rfl rfl rfl ?_
  refine AO.yld _ (Yld.move rfl) rfl rfl rfl ?_
  refine AO.yld _ (Yld.call rfl rfl Try.call99 rfl rfl rfl (impl_checkNeeds_c (by first | assumption | omega) (by assumption) (by first | assumption | omega) (by assumption)) rfl) rfl rfl rfl ?_
  refine AO.yld _ (Yld.assign rfl) rfl rfl rfl ?_
  refine AO.nil ?_
  refine AC.seq ?_
  refine AC.region ?_
  refine AO.yld _ (Yld.move rfl) rfl rfl rfl ?_
  refine AO.yld _ (Yld.int rfl rfl rfl) rfl rfl rfl ?_
  refine AO.nil ?_
  refine AC.cond _ rfl (fun c17 => ?_) (fun c17 => ?_)
  · -- c17 True
    refine AC.seq ?_
    refine AC.region ?_
    refine AO.yld _ (Yld.move rfl) rfl rfl rfl ?_
    refine AO.yld _ (Yld.assign rfl) rfl rfl rfl ?_
    refine AO.yld _ (Yld.assign rfl) rfl rfl rfl ?_
    refine AO.nil ?_
    refine AC.nilVec 6 0 2 1 rfl rfl ?_
    refine FnE.ret () [0] [0] Try.results46 (RVs.cons (RV.tmp rfl) (RVs.cons (RV.tmp rfl) RVs.nil)) rfl rfl rfl ?_ ?_ ⟨⟨_, rfl, ?_⟩, trivial⟩
    · -- holds
      trivial
    · -- value
      refine tupE ?_; first | (simp_all [latestLoads]; done) | (rw [latest_good hk0 hJ.2]) | (rw [latest_bad hk0 hneg hj])
    · -- thing 0
      refine vecE ?_; first | (simp_all [latestLoads]; done) | (rw [endRows_end, latest_good hk0 hJ.2]) | (rw [latest_bad hk0 hneg hj]; done) | (rw [latest_bad hk0 hneg hj]; rfl)
  · -- c17 False
    have hk0 : askNeeds ms xs b = 0 := by first | (simpa using c17) | (exact absurd c17 (by decide))
    obtain ⟨hok, hb⟩ := ask_needs hk0
    have hl16 := (needs_ok hok).2.2
    refine AC.skip ?_
    refine AC.seq ?_
    refine AC.region ?_
    refine AO.yld _ (Yld.move rfl) rfl rfl rfl ?_
    refine AO.yld _ (Yld.len Try.underlying57 rfl rfl) rfl rfl rfl ?_
    refine AO.make 0 Try.underlying31 ty2 rfl rfl rfl rfl rfl (Nat.le_refl _) (by rw [hM]; omega) (by rw [hM]; omega) rfl rfl ?_
    refine AO.yld _ (Yld.assign rfl) rfl rfl rfl ?_
    refine AO.nil ?_
    refine AC.seq ?_
    refine AC.region ?_
    refine AO.yld _ (Yld.assign rfl) rfl rfl rfl ?_
    refine AO.nil ?_
    refine AC.seq ?_
    refine AC.seq ?_
    refine AC.region ?_
    refine AO.yld _ (Yld.move rfl) rfl rfl rfl ?_
    refine AO.yld _ (Yld.len Try.underlying57 rfl rfl) rfl rfl rfl ?_
    refine AO.yld _ (Yld.sub rfl rfl (by rw [hM]; omega) (by rw [hM]; omega)) rfl rfl rfl ?_
    refine AO.yld _ (Yld.assign rfl) rfl rfl rfl ?_
    refine AO.nil ?_
    refine AC.block ?_
    refine AC.loopC [(0, _), (1, _), (2, _), (9, _)] [(900, _)] (fun (j : Nat) => [(11, .p (.v (.int .i64 ((xs.length : Int) - 1 - j)))), (10, .p (.v (.int .i64 (endF ms xs b j)))), (9, .h 0)]) (fun (j : Nat) => [(0, .vec 2 1 (endRows ms xs b j))]) (fun (j : Nat) => j ≤ xs.length ∧ endOk ms xs b j = true) (fun (j : Nat) => xs.length - j) 0 ⟨rfl, rfl, rfl, rfl, trivial⟩ ⟨rfl, trivial⟩ ⟨by show some (AV.p (PV.v (Value.int IntKind.i64 _))) = _; rw [hM]; simp, rfl, rfl, trivial⟩ ⟨by rw [endRows_zero, ← hM]; rfl, trivial⟩ ?_ (fun j hJ => ?_)
    · exact ⟨Nat.zero_le _, rfl⟩
    · -- round
      refine AC.seq ?_
      refine AC.seq ?_
      refine AC.region ?_
      refine AO.yld _ (Yld.move rfl) rfl rfl rfl ?_
      refine AO.yld _ (Yld.int rfl rfl rfl) rfl rfl rfl ?_
      refine AO.nil ?_
      refine AC.cond _ rfl (fun c26 => ?_) (fun c26 => ?_)
      · -- c26 True
        have hj : j < xs.length := by have h := c26; simp at h; omega
        obtain ⟨x, hx⟩ := get_some (xs := xs) (k := xs.length - 1 - j) (by omega)
        have hrow := map_row (enc := encNV) hx
        have hlx := loadT_lim (needs_ok hok).1 hb.1 x
        have hsl := lookup_lim (needs_ok hok).1 x.name
        have hnl := need_lim (allI_at (needs_ok hok).2.1 hx)
        have hel := endF_lim hok hb.1 j
        have hes : endF ms xs b (j + 1) = min (endF ms xs b j) x.val - (1000 * lookup ms x.name + b - 1) / b := endF_succ hx
        have hld : loadT ms b x = (1000 * lookup ms x.name + b - 1) / b := rfl
        refine AC.skip ?_
        refine AC.seq ?_
        refine AC.block ?_
        refine AC.seq ?_
        refine AC.draw (by kernel_rfl) (by kernel_rfl) ?_
        refine AO.yld _ (Yld.move rfl) rfl rfl rfl ?_
        refine AO.yld _ (Yld.move rfl) rfl rfl rfl ?_
        refine AO.yld _ (Yld.move rfl) rfl rfl rfl ?_
        refine AO.yld _ (Yld.indexSl Try.underlying57 Try.sizeOf126 rfl rfl hrow (by omega)) rfl rfl rfl ?_
        refine AO.yld _ (Yld.fieldAddr Try.underlying126 rfl rfl Try.sizeOf2 rfl rfl rfl) rfl rfl rfl ?_
        refine AO.yld _ (Yld.load Try.isAgg2 rfl rfl) rfl rfl rfl ?_
        refine AO.yld _ (Yld.min2 rfl rfl) rfl rfl rfl ?_
        refine AO.yld _ (Yld.move rfl) rfl rfl rfl ?_
        refine AO.yld _ (Yld.move rfl) rfl rfl rfl ?_
        refine AO.yld _ (Yld.move rfl) rfl rfl rfl ?_
        refine AO.yld _ (Yld.indexSl Try.underlying57 Try.sizeOf126 rfl rfl hrow (by omega)) rfl rfl rfl ?_
        refine AO.yld _ (Yld.fieldAddr Try.underlying126 rfl rfl Try.sizeOf9 rfl rfl rfl) rfl rfl rfl ?_
        refine AO.yld _ (Yld.load Try.isAgg9 rfl rfl) rfl rfl rfl ?_
        refine AO.yld _ (Yld.call rfl rfl Try.call101 rfl rfl rfl (impl_sizeOf_c (by first | assumption | omega)) rfl) rfl rfl rfl ?_
        refine AO.yld _ (Yld.mul rfl rfl (by omega) (by omega)) rfl rfl rfl ?_
        refine AO.yld _ (Yld.move rfl) rfl rfl rfl ?_
        refine AO.yld _ (Yld.call rfl rfl Try.call100 rfl rfl rfl (impl_quotientUp_c (by omega) (by omega) (by omega)) rfl) rfl rfl rfl ?_
        refine AO.yld _ (Yld.sub rfl rfl (by omega) (by omega)) rfl rfl rfl ?_
        refine AO.yld _ (Yld.assign rfl) rfl rfl rfl ?_
        refine AO.nil ?_
        refine AC.seq ?_
        refine AC.seq ?_
        refine AC.region ?_
        refine AO.yld _ (Yld.move rfl) rfl rfl rfl ?_
        refine AO.yld _ (Yld.int rfl rfl rfl) rfl rfl rfl ?_
        refine AO.nil ?_
        refine AC.cond _ rfl (fun c48 => ?_) (fun c48 => ?_)
        · -- c48 True
          have hneg : endF ms xs b (j + 1) < 0 := by rw [hes]; simpa using c48
          refine AC.seq ?_
          refine AC.region ?_
          refine AO.yld _ (Yld.assign rfl) rfl rfl rfl ?_
          refine AO.yld _ (Yld.assign rfl) rfl rfl rfl ?_
          refine AO.nil ?_
          refine AC.nilVec 6 1 2 1 rfl rfl ?_
          refine FnE.ret () [1] [0] Try.results46 (RVs.cons (RV.tmp rfl) (RVs.cons (RV.tmp rfl) RVs.nil)) rfl rfl rfl ?_ ?_ ⟨⟨_, rfl, ?_⟩, trivial⟩
          · -- holds
            trivial
          · -- value
            refine tupE ?_; first | (simp_all [latestLoads]; done) | (rw [latest_good hk0 hJ.2]) | (rw [latest_bad hk0 hneg hj])
          · -- thing 0
            refine vecE ?_; first | (simp_all [latestLoads]; done) | (rw [endRows_end, latest_good hk0 hJ.2]) | (rw [latest_bad hk0 hneg hj]; done) | (rw [latest_bad hk0 hneg hj]; rfl)
        · -- c48 False
          refine AC.skip ?_
          refine AC.region ?_
          refine AO.yld _ (Yld.move rfl) rfl rfl rfl ?_
          refine AO.yld _ (Yld.move rfl) rfl rfl rfl ?_
          refine AO.yld _ (Yld.move rfl) rfl rfl rfl ?_
          refine AO.yld _ (Yld.indexVec Try.underlying31 Try.sizeOf2 rfl rfl rfl (show _ = ((xs.length - 1 - j : Nat) : Int) by omega) (by rw [endRows_len _ _ _ (by omega)]; omega)) rfl rfl rfl ?_
          refine AO.store Try.sizeOf2 rfl rfl rfl rfl rfl (store_el rfl (endRows_get hj) rfl rfl) ?_
          refine AO.nil ?_
          refine AC.mark ?_
          refine AC.region ?_
          refine AO.yld _ (Yld.move rfl) rfl rfl rfl ?_
          refine AO.yld _ (Yld.sub rfl rfl (by omega) (by omega)) rfl rfl rfl ?_
          refine AO.yld _ (Yld.assign rfl) rfl rfl rfl ?_
          refine AO.nil ?_
          refine AC.back ⟨j + 1, ?_, ?_, ⟨?_, ?_, ?_, trivial⟩, ⟨?_, trivial⟩, ⟨rfl, rfl, rfl, rfl, trivial⟩, ⟨rfl, trivial⟩⟩
          · exact ⟨hj, by simp only [endOk, hJ.2, Bool.true_and, decide_eq_true_eq]; have h9 := c48; rw [hes]; simp at h9; omega⟩
          · omega
          · show some (AV.p (PV.v (Value.int IntKind.i64 _))) = _; congr 4 <;> omega
          · show some (AV.p (PV.v (Value.int IntKind.i64 _))) = _; rw [hes]; try rfl
          · rfl
          · rw [← endRows_set hj, hes]; rfl
      · -- c26 False
        obtain rfl : j = xs.length := by have h := c26; simp at h; omega
        refine AC.exit rfl ?_
        refine AC.seq ?_
        refine AC.region ?_
        refine AO.yld _ (Yld.move rfl) rfl rfl rfl ?_
        refine AO.yld _ (Yld.assign rfl) rfl rfl rfl ?_
        refine AO.yld _ (Yld.assign rfl) rfl rfl rfl ?_
        refine AO.nil ?_
        refine FnE.ret () [0] [0] Try.results46 (RVs.cons (RV.tmp rfl) (RVs.cons (RV.tmp rfl) RVs.nil)) rfl rfl rfl ?_ ?_ ⟨⟨_, rfl, ?_⟩, trivial⟩
        · -- holds
          trivial
        · -- value
          refine tupE ?_; first | (simp_all [latestLoads]; done) | (rw [latest_good hk0 hJ.2]) | (rw [latest_bad hk0 hneg hj])
        · -- thing 0
          refine vecE ?_; first | (simp_all [latestLoads]; done) | (rw [endRows_end, latest_good hk0 hJ.2]) | (rw [latest_bad hk0 hneg hj]; done) | (rw [latest_bad hk0 hneg hj]; rfl)

theorem spec_l00Has_c {xs : List Int} {n : Int} (hn : xs.length ≤ 1048576) :
    Pure Try.prog 126 [.sl 1 (xs.map encI), .v (.int .i64 n)] (.v (.bool (decide (n ∈ xs)))) := by
  refine Pure.intro Try.func126 rfl Try.ntmps126 rfl rfl (fun w => ?_)
  refine AC.seq ?_
  refine AC.region ?_
  refine AO.yld _ (Yld.assign rfl) rfl rfl rfl ?_
  refine AO.nil ?_
  refine AC.seq ?_
  refine AC.seq ?_
  refine AC.region ?_
  refine AO.yld _ (Yld.assign rfl) rfl rfl rfl ?_
  refine AO.nil ?_
  refine AC.block ?_
  refine AC.loopC [(0, _), (1, _)] [] (fun (k : Nat) => [(5, .p (.v (.int .i64 (k : Int))))]) (fun (k : Nat) => []) (fun (k : Nat) => k ≤ xs.length ∧ n ∉ xs.take k) (fun (k : Nat) => xs.length - k) 0 ⟨rfl, rfl, trivial⟩ trivial ⟨rfl, trivial⟩ trivial ?_ (fun k hJ => ?_)
  · exact ⟨Nat.zero_le _, by simp⟩
  · -- round
    refine AC.seq ?_
    refine AC.seq ?_
    refine AC.region ?_
    refine AO.yld _ (Yld.move rfl) rfl rfl rfl ?_
    refine AO.yld _ (Yld.move rfl) rfl rfl rfl ?_
    refine AO.yld _ (Yld.len Try.underlying31 rfl rfl) rfl rfl rfl ?_
    refine AO.yld _ (Yld.int rfl rfl rfl) rfl rfl rfl ?_
    refine AO.nil ?_
    refine AC.cond _ rfl (fun c9 => ?_) (fun c9 => ?_)
    · -- c9 True
      have hk := lt_of_decM c9
      obtain ⟨x, hx⟩ := get_some hk
      have hrow := map_row (enc := encI) hx
      refine AC.skip ?_
      refine AC.seq ?_
      refine AC.block ?_
      refine AC.seq ?_
      refine AC.region ?_
      refine AO.yld _ (Yld.move rfl) rfl rfl rfl ?_
      refine AO.yld _ (Yld.move rfl) rfl rfl rfl ?_
      refine AO.yld _ (Yld.indexSl Try.underlying31 Try.sizeOf2 rfl rfl hrow rfl) rfl rfl rfl ?_
      refine AO.yld _ (Yld.load Try.isAgg2 rfl rfl) rfl rfl rfl ?_
      refine AO.yld _ (Yld.move rfl) rfl rfl rfl ?_
      refine AO.yld _ (Yld.int rfl rfl rfl) rfl rfl rfl ?_
      refine AO.nil ?_
      refine AC.cond _ rfl (fun c17 => ?_) (fun c17 => ?_)
      · -- c17 True
        refine AC.seq ?_
        refine AC.region ?_
        refine AO.yld _ (Yld.assign rfl) rfl rfl rfl ?_
        refine AO.nil ?_
        refine Pure.ret Try.results126 (RVs.cons (RV.tmp rfl) RVs.nil) rfl ?_
        first
          | (refine cb ?_; have h9 := hJ.2; rw [List.take_of_length_le (Nat.le_refl _)] at h9; exact decide_eq_false h9)
          | (refine cb ?_; have h9 := c17; simp at h9; subst h9; exact decide_eq_true (List.mem_of_getElem? hx))
      · -- c17 False
        refine AC.skip ?_
        refine AC.mark ?_
        refine AC.region ?_
        refine AO.yld _ (Yld.move rfl) rfl rfl rfl ?_
        refine AO.yld _ (Yld.add rfl rfl (by omega) (by omega)) rfl rfl rfl ?_
        refine AO.yld _ (Yld.assign rfl) rfl rfl rfl ?_
        refine AO.nil ?_
        refine AC.back ⟨k + 1, ?_, ?_, ⟨?_, trivial⟩, trivial, ⟨rfl, rfl, trivial⟩, trivial⟩
        · exact ⟨hk, by rw [take_snoc hx]; have h9 := c17; simp at h9; simp only [List.mem_append, List.mem_singleton, not_or]; exact ⟨hJ.2, fun e => h9 e.symm⟩⟩
        · omega
        · rfl
    · -- c9 False
      obtain rfl : k = xs.length := by have := ge_of_decM c9; omega
      refine AC.exit rfl ?_
      refine AC.seq ?_
      refine AC.region ?_
      refine AO.yld _ (Yld.assign rfl) rfl rfl rfl ?_
      refine AO.nil ?_
      refine Pure.ret Try.results126 (RVs.cons (RV.tmp rfl) RVs.nil) rfl ?_
      first
        | (refine cb ?_; have h9 := hJ.2; rw [List.take_of_length_le (Nat.le_refl _)] at h9; exact decide_eq_false h9)
        | (refine cb ?_; have h9 := c17; simp at h9; subst h9; exact decide_eq_true (List.mem_of_getElem? hx))

theorem indexInt_c {xs : List Int} {n : Int} (hn : xs.length ≤ 1048576) :
    Pure Try.prog 152 [.sl 1 (xs.map encI), .v (.int .i64 n)] (.v (.int .i64 (idxOf (fun x => decide (n = x)) xs))) := by
  refine Pure.intro Try.func152 rfl Try.ntmps152 rfl rfl (fun w => ?_)
  refine AC.seq ?_
  refine AC.region ?_
  refine AO.yld _ (Yld.assign rfl) rfl rfl rfl ?_
  refine AO.nil ?_
  refine AC.seq ?_
  refine AC.seq ?_
  refine AC.region ?_
  refine AO.yld _ (Yld.move rfl) rfl rfl rfl ?_
  refine AO.yld _ (Yld.len Try.underlying31 rfl rfl) rfl rfl rfl ?_
  refine AO.yld _ (Yld.move rfl) rfl rfl rfl ?_
  refine AO.nil ?_
  refine AC.block ?_
  refine AC.loopC [(0, _), (1, _), (7, _)] [] (fun (k : Nat) => [(8, .p (.v (.int .i64 (k : Int))))]) (fun (k : Nat) => []) (fun (k : Nat) => k ≤ xs.length ∧ anyTo (fun x => decide (n = x)) xs k = false) (fun (k : Nat) => xs.length - k) 0 ⟨rfl, rfl, rfl, trivial⟩ trivial ⟨rfl, trivial⟩ trivial ?_ (fun k hJ => ?_)
  · exact ⟨Nat.zero_le _, rfl⟩
  · -- round
    refine AC.seq ?_
    refine AC.region ?_
    refine AO.yld _ (Yld.int rfl rfl rfl) rfl rfl rfl ?_
    refine AO.nil ?_
    refine AC.seq ?_
    refine AC.cond _ rfl (fun c9 => ?_) (fun c9 => ?_)
    · -- c9 True
      have hk := lt_of_decM c9
      obtain ⟨x, hx⟩ := get_some hk
      have hrow := map_row (enc := encI) hx
      refine AC.skip ?_
      refine AC.seq ?_
      refine AC.block ?_
      refine AC.seq ?_
      refine AC.region ?_
      refine AO.yld _ (Yld.move rfl) rfl rfl rfl ?_
      refine AO.yld _ (Yld.assign rfl) rfl rfl rfl ?_
      refine AO.nil ?_
      refine AC.seq ?_
      refine AC.region ?_
      refine AO.yld _ (Yld.move rfl) rfl rfl rfl ?_
      refine AO.yld _ (Yld.move rfl) rfl rfl rfl ?_
      refine AO.yld _ (Yld.move rfl) rfl rfl rfl ?_
      refine AO.yld _ (Yld.indexSl Try.underlying31 Try.sizeOf2 rfl rfl hrow rfl) rfl rfl rfl ?_
      refine AO.yld _ (Yld.load Try.isAgg2 rfl rfl) rfl rfl rfl ?_
      refine AO.yld _ (Yld.int rfl rfl rfl) rfl rfl rfl ?_
      refine AO.nil ?_
      refine AC.cond _ rfl (fun c16 => ?_) (fun c16 => ?_)
      · -- c16 True
        refine AC.seq ?_
        refine AC.region ?_
        refine AO.yld _ (Yld.move rfl) rfl rfl rfl ?_
        refine AO.yld _ (Yld.assign rfl) rfl rfl rfl ?_
        refine AO.nil ?_
        refine Pure.ret Try.results152 (RVs.cons (RV.tmp rfl) RVs.nil) rfl ?_
        first
          | exact ci (idx_hit hJ.2 hx (by simpa using c16))
          | exact ci (idx_miss hJ.2)
          | exact ci (idx_hit hJ.2 hx (by simpa using c16)).symm
          | exact ci (idx_miss hJ.2).symm
      · -- c16 False
        refine AC.skip ?_
        refine AC.mark ?_
        refine AC.region ?_
        refine AO.yld _ (Yld.add rfl rfl (by omega) (by omega)) rfl rfl rfl ?_
        refine AO.yld _ (Yld.move rfl) rfl rfl rfl ?_
        refine AO.nil ?_
        refine AC.back ⟨k + 1, ?_, ?_, ⟨?_, trivial⟩, trivial, ⟨rfl, rfl, rfl, trivial⟩, trivial⟩
        · exact ⟨hk, by rw [anyTo_succ hx, hJ.2]; simpa using c16⟩
        · omega
        · rfl
    · -- c9 False
      obtain rfl : k = xs.length := by have := ge_of_decM c9; omega
      refine AC.exit rfl ?_
      refine AC.seq ?_
      refine AC.region ?_
      refine AO.yld _ (Yld.assign rfl) rfl rfl rfl ?_
      refine AO.nil ?_
      refine Pure.ret Try.results152 (RVs.cons (RV.tmp rfl) RVs.nil) rfl ?_
      first
        | exact ci (idx_hit hJ.2 hx (by simpa using c16))
        | exact ci (idx_miss hJ.2)
        | exact ci (idx_hit hJ.2 hx (by simpa using c16)).symm
        | exact ci (idx_miss hJ.2).symm

theorem containsInt_c {xs : List Int} {n : Int} (hn : xs.length ≤ 1048576) :
    Pure Try.prog 127 [.sl 1 (xs.map encI), .v (.int .i64 n)] (.v (.bool (decide (n ∈ xs)))) := by
  refine Pure.intro Try.func127 rfl Try.ntmps127 rfl rfl (fun w => ?_)
  refine AC.seq ?_
  refine AC.region ?_
  refine AO.yld _ (Yld.assign rfl) rfl rfl rfl ?_
  refine AO.nil ?_
  refine AC.seq ?_
  refine AC.region ?_
  refine AO.yld _ (Yld.move rfl) rfl rfl rfl ?_
  refine AO.yld _ (Yld.move rfl) rfl rfl rfl ?_
  refine AO.yld _ (Yld.call rfl rfl Try.call152 rfl rfl rfl (indexInt_c (by first | assumption | omega)) rfl) rfl rfl rfl ?_
  refine AO.yld _ (Yld.int rfl rfl rfl) rfl rfl rfl ?_
  refine AO.yld _ (Yld.assign rfl) rfl rfl rfl ?_
  refine AO.nil ?_
  refine Pure.ret Try.results127 (RVs.cons (RV.tmp rfl) RVs.nil) rfl ?_
  refine cb ?_; rw [idx_any]; simp [List.any_eq, eq_comm]

theorem impl_lineOf_c {xs : List Ver} {n : Int} (hg : VersGood xs) (hok : okVers xs = true) (h0 : 0 ≤ n) (h1 : n ≤ xs.length) :
    FnE (α := Unit) Try.prog 88 [.p (.sl 4 (xs.map encVer)), .p (.v (.int .i64 n))] [] [] (fun _ => True) (fun _ => .h 0) (fun _ => [(0, .vec 2 1 ((line xs n).map encI))]) := by
  have hl32 := vers_len hok
  refine FnE.intro Try.func88 rfl Try.ntmps88 rfl rfl (fun w0 F0 η φ w => ?_)
  refine AC.seq ?_
  refine AC.region ?_
  refine AO.yld _ (Yld.assign rfl) rfl rfl rfl ?_
  refine AO.nil ?_
  refine AC.seq ?_
  refine AC.region ?_
  refine AO.yld _ (Yld.assign rfl) rfl rfl rfl ?_
  refine AO.nil ?_
  refine AC.seq ?_
  refine AC.block ?_
  refine AC.nilVec 5 0 2 1 rfl rfl ?_
  refine AC.loopC2 [(0, _), (4, _)] [(900, _)] (fun (m : Int) (acc : List Int) => [(1, .p (.v (.int .i64 m))), (5, .h 0)]) (fun (m : Int) (acc : List Int) => [(0, .vec 2 1 (acc.map encI))]) (fun (m : Int) (acc : List Int) => acc ++ line xs m = line xs n ∧ 0 ≤ m ∧ m ≤ n ∧ acc.length + m.toNat ≤ n.toNat) (fun (m : Int) (acc : List Int) => m.toNat) n [] ⟨rfl, rfl, trivial⟩ ⟨rfl, trivial⟩ ⟨rfl, rfl, trivial⟩ ⟨rfl, trivial⟩ ?_ (fun m acc hJ => ?_)
  · exact ⟨rfl, by omega, by omega, by simp⟩
  · -- round
    refine AC.seq ?_
    refine AC.seq ?_
    refine AC.region ?_
    refine AO.yld _ (Yld.move rfl) rfl rfl rfl ?_
    refine AO.yld _ (Yld.int rfl rfl rfl) rfl rfl rfl ?_
    refine AO.nil ?_
    refine AC.cond _ rfl (fun c7 => ?_) (fun c7 => ?_)
    · -- c7 True
      have hm0 : 0 < m := by simpa using c7
      obtain ⟨x, hx⟩ := get_some (xs := xs) (k := (m - 1).toNat) (by omega)
      have hrow := map_row (enc := encVer) hx
      have hvl := ver_lim (ver_at hok hx)
      have hpe := par_eq hx
      refine AC.skip ?_
      refine AC.seq ?_
      refine AC.block ?_
      refine AC.region ?_
      refine AO.yld _ (Yld.move rfl) rfl rfl rfl ?_
      refine AO.yld _ (Yld.move rfl) rfl rfl rfl ?_
      refine AO.buildSlice (rows := [[_]]) 1 Try.underlying31 ty2 rfl rfl rfl rfl rfl rfl rfl rfl rfl ?_
      refine AO.append 0 Try.underlying31 ty2 rfl rfl rfl rfl rfl rfl rfl (by simp [pvOne]) (by simp only [List.length_map, List.length_cons, List.length_nil]; omega) (by simp only [List.length_map, List.length_cons, List.length_nil]; omega) rfl ?_
      refine AO.yld _ (Yld.assign rfl) rfl rfl rfl ?_
      refine AO.nil ?_
      refine AC.mark ?_
      refine AC.region ?_
      refine AO.yld _ (Yld.move rfl) rfl rfl rfl ?_
      refine AO.yld _ (Yld.move rfl) rfl rfl rfl ?_
      refine AO.yld _ (Yld.sub rfl rfl (by omega) (by omega)) rfl rfl rfl ?_
      refine AO.yld _ (Yld.indexSl Try.underlying26 Try.sizeOf92 rfl rfl hrow (by omega)) rfl rfl rfl ?_
      refine AO.yld _ (Yld.fieldAddr Try.underlying92 rfl rfl Try.sizeOf2 rfl rfl rfl) rfl rfl rfl ?_
      refine AO.yld _ (Yld.load Try.isAgg2 rfl rfl) rfl rfl rfl ?_
      refine AO.yld _ (Yld.assign rfl) rfl rfl rfl ?_
      refine AO.nil ?_
      refine AC.back ⟨x.parent, acc ++ [m], ?_, ?_, ⟨?_, ?_, trivial⟩, ⟨?_, trivial⟩, ⟨rfl, rfl, trivial⟩, ⟨rfl, trivial⟩⟩
      · exact ⟨by rw [List.append_assoc, ← hJ.1, line_pos hok (n := m) (by omega), hpe]; rfl, by omega, by omega, by simp only [List.length_append, List.length_singleton]; omega⟩
      · omega
      · rfl
      · rfl
      · rw [map_snoc]; rfl
    · -- c7 False
      have hm0 : ¬ 0 < m := by simpa using c7
      refine AC.exit rfl ?_
      refine AC.seq ?_
      refine AC.region ?_
      refine AO.yld _ (Yld.move rfl) rfl rfl rfl ?_
      refine AO.yld _ (Yld.assign rfl) rfl rfl rfl ?_
      refine AO.nil ?_
      refine FnE.ret () [0] [0] Try.results88 (RVs.cons (RV.tmp rfl) RVs.nil) rfl rfl rfl ?_ ?_ ⟨⟨_, rfl, ?_⟩, trivial⟩
      · -- holds
        trivial
      · -- value
        rfl
      · -- thing 0
        refine vecE ?_; have h9 := hJ.1; rw [line_zero (by omega), List.append_nil] at h9; rw [h9]

theorem spec_l27Above_c {xs : List Ver} {n : Int} (hg : VersGood xs) (hok : okVers xs = true) (h0 : 0 ≤ n) (h1 : n ≤ xs.length) :
    FnE (α := Unit) Try.prog 87 [.p (.sl 4 (xs.map encVer)), .p (.v (.int .i64 n))] [] [] (fun _ => True) (fun _ => .h 0) (fun _ => [(0, .vec 2 1 ((line xs n).tail.map encI))]) := by
  have hl32 := vers_len hok
  refine FnE.intro Try.func87 rfl Try.ntmps87 rfl rfl (fun w0 F0 η φ w => ?_)
  refine AC.seq ?_
  refine AC.region ?_
  refine AO.yld _ (Yld.assign rfl) rfl rfl rfl ?_
  refine AO.nil ?_
  refine AC.seq ?_
  refine AC.region ?_
  refine AO.buildSlice (rows := []) 0 Try.underlying31 ty2 rfl rfl rfl rfl rfl rfl rfl rfl rfl ?_
  refine AO.yld _ (Yld.assign rfl) rfl rfl rfl ?_
  refine AO.nil ?_
  refine AC.seq ?_
  refine AC.block ?_
  refine AC.loopC2 [(0, _), (4, _)] [(900, _)] (fun (m : Int) (acc : List Int) => [(1, .p (.v (.int .i64 m))), (5, .h 0)]) (fun (m : Int) (acc : List Int) => [(0, .vec 2 1 (acc.map encI))]) (fun (m : Int) (acc : List Int) => acc ++ (line xs m).tail = (line xs n).tail ∧ 0 ≤ m ∧ m ≤ n ∧ acc.length + m.toNat ≤ n.toNat) (fun (m : Int) (acc : List Int) => m.toNat) n [] ⟨rfl, rfl, trivial⟩ ⟨rfl, trivial⟩ ⟨rfl, rfl, trivial⟩ ⟨rfl, trivial⟩ ?_ (fun m acc hJ => ?_)
  · exact ⟨rfl, by omega, by omega, by simp⟩
  · -- round
    refine AC.seq ?_
    refine AC.seq ?_
    refine AC.region ?_
    refine AO.yld _ (Yld.move rfl) rfl rfl rfl ?_
    refine AO.yld _ (Yld.int rfl rfl rfl) rfl rfl rfl ?_
    refine AO.nil ?_
    refine AC.cond _ rfl (fun c8 => ?_) (fun c8 => ?_)
    · -- c8 True
      have hm0 : 0 < m := by have h := c8; simp at h; omega
      obtain ⟨x, hx⟩ := get_some (xs := xs) (k := (m - 1).toNat) (by omega)
      have hrow := map_row (enc := encVer) hx
      have hvl := ver_lim (ver_at hok hx)
      have hpe := par_eq hx
      refine AC.skip ?_
      refine AC.block ?_
      refine AC.seq ?_
      refine AC.region ?_
      refine AO.yld _ (Yld.move rfl) rfl rfl rfl ?_
      refine AO.yld _ (Yld.move rfl) rfl rfl rfl ?_
      refine AO.yld _ (Yld.sub rfl rfl (by omega) (by omega)) rfl rfl rfl ?_
      refine AO.yld _ (Yld.indexSl Try.underlying26 Try.sizeOf92 rfl rfl hrow (by omega)) rfl rfl rfl ?_
      refine AO.yld _ (Yld.fieldAddr Try.underlying92 rfl rfl Try.sizeOf2 rfl rfl rfl) rfl rfl rfl ?_
      refine AO.yld _ (Yld.load Try.isAgg2 rfl rfl) rfl rfl rfl ?_
      refine AO.yld _ (Yld.assign rfl) rfl rfl rfl ?_
      refine AO.nil ?_
      refine AC.seq ?_
      refine AC.region ?_
      refine AO.yld _ (Yld.move rfl) rfl rfl rfl ?_
      refine AO.yld _ (Yld.int rfl rfl rfl) rfl rfl rfl ?_
      refine AO.nil ?_
      refine AC.cond _ rfl (fun c16 => ?_) (fun c16 => ?_)
      · -- c16 True
        have hp0 : x.parent ≠ 0 := by simpa using c16
        obtain ⟨na, hna⟩ : ∃ z, z = acc ++ [x.parent] := ⟨_, rfl⟩
        refine AC.region ?_
        refine AO.yld _ (Yld.move rfl) rfl rfl rfl ?_
        refine AO.yld _ (Yld.move rfl) rfl rfl rfl ?_
        refine AO.buildSlice (rows := [[_]]) 1 Try.underlying31 ty2 rfl rfl rfl rfl rfl rfl rfl rfl rfl ?_
        refine AO.append 0 Try.underlying31 ty2 rfl rfl rfl rfl rfl rfl rfl (by simp [pvOne]) (by simp only [List.length_map, List.length_cons, List.length_nil]; omega) (by simp only [List.length_map, List.length_cons, List.length_nil]; omega) rfl ?_
        refine AO.yld _ (Yld.assign rfl) rfl rfl rfl ?_
        refine AO.nil ?_
        refine AC.mark ?_
        refine AC.back ⟨x.parent, na, ?_, ?_, ⟨?_, ?_, trivial⟩, ⟨?_, trivial⟩, ⟨rfl, rfl, trivial⟩, ⟨rfl, trivial⟩⟩
        · subst hna; first | exact ⟨by rw [List.append_assoc, ← hJ.1, line_pos hok (n := m) (by omega), hpe, List.tail_cons, line_pos hok (n := x.parent) (by omega)]; rfl, by omega, by omega, by simp only [List.length_append, List.length_singleton]; omega⟩ | exact ⟨by rw [← hJ.1, line_pos hok (n := m) (by omega), hpe, List.tail_cons, line_zero (n := x.parent) (by omega)]; rfl, by omega, by omega, by omega⟩
        · omega
        · rfl
        · rfl
        · subst hna; first | (rw [map_snoc]; rfl) | rfl
      · -- c16 False
        have hp0 : x.parent = 0 := by simpa using c16
        obtain ⟨na, hna⟩ : ∃ z, z = acc := ⟨_, rfl⟩
        refine AC.skip ?_
        refine AC.mark ?_
        refine AC.back ⟨x.parent, na, ?_, ?_, ⟨?_, ?_, trivial⟩, ⟨?_, trivial⟩, ⟨rfl, rfl, trivial⟩, ⟨rfl, trivial⟩⟩
        · subst hna; first | exact ⟨by rw [List.append_assoc, ← hJ.1, line_pos hok (n := m) (by omega), hpe, List.tail_cons, line_pos hok (n := x.parent) (by omega)]; rfl, by omega, by omega, by simp only [List.length_append, List.length_singleton]; omega⟩ | exact ⟨by rw [← hJ.1, line_pos hok (n := m) (by omega), hpe, List.tail_cons, line_zero (n := x.parent) (by omega)]; rfl, by omega, by omega, by omega⟩
        · omega
        · rfl
        · rfl
        · subst hna; first | (rw [map_snoc]; rfl) | rfl
    · -- c8 False
      have hm0 : m = 0 := by simpa using c8
      refine AC.exit rfl ?_
      refine AC.seq ?_
      refine AC.region ?_
      refine AO.yld _ (Yld.move rfl) rfl rfl rfl ?_
      refine AO.yld _ (Yld.assign rfl) rfl rfl rfl ?_
      refine AO.nil ?_
      refine FnE.ret () [0] [0] Try.results87 (RVs.cons (RV.tmp rfl) RVs.nil) rfl rfl rfl ?_ ?_ ⟨⟨_, rfl, ?_⟩, trivial⟩
      · -- holds
        trivial
      · -- value
        rfl
      · -- thing 0
        refine vecE ?_; have h9 := hJ.1; rw [line_zero (by omega), List.tail_nil, List.append_nil] at h9; rw [h9]

theorem impl_commonAncestor_c {xs : List Ver} {a b : Int} (hg : VersGood xs) (hok : okVers xs = true) (ha : 1 ≤ a ∧ a ≤ xs.length) (hb : 1 ≤ b ∧ b ≤ xs.length) :
    Pure Try.prog 72 [.sl 4 (xs.map encVer), .v (.int .i64 a), .v (.int .i64 b)] (.v (.int .i64 (commonA xs a b))) := by
  have hl32 := vers_len hok
  have hla := line_lim (xs := xs) a
  have hlb := line_lim (xs := xs) b
  refine Pure.intro Try.func72 rfl Try.ntmps72 rfl rfl (fun w => ?_)
  refine AC.seq ?_
  refine AC.region ?_
  refine AO.yld _ (Yld.assign rfl) rfl rfl rfl ?_
  refine AO.nil ?_
  refine AC.seq ?_
  refine AC.region ?_
  refine AO.yld _ (Yld.move rfl) rfl rfl rfl ?_
  refine AO.yld _ (Yld.move rfl) rfl rfl rfl ?_
  refine AO.callW (wantedN rfl) [0] [] [0] rfl rfl Try.call88 rfl (impl_lineOf_c (by assumption) (by assumption) (by omega) (by omega)) (.flat (.view rfl rfl (.view rfl rfl .nil)) (fun _ => by simp [AV.Flat, AV.FlatL, PV.Flat, PV.FlatL]) (fun _ => ⟨flat_map flatI _, trivial⟩)) rfl (fun _ => rfl) trivial rfl (fun _ => rfl) (fun _ => rfl) (fun _ _ => ?_)
  refine AO.yld _ (Yld.assign rfl) rfl rfl rfl ?_
  refine AO.nil ?_
  refine AC.seq ?_
  refine AC.seq ?_
  refine AC.region ?_
  refine AO.yld _ (Yld.move rfl) rfl rfl rfl ?_
  refine AO.yld _ (Yld.move rfl) rfl rfl rfl ?_
  refine AO.callW (wantedN rfl) [1] [] [0] rfl rfl Try.call88 rfl (impl_lineOf_c (by assumption) (by assumption) (by omega) (by omega)) (.flat (.view rfl rfl (.view rfl rfl .nil)) (fun _ => by simp [AV.Flat, AV.FlatL, PV.Flat, PV.FlatL]) (fun _ => ⟨flat_map flatI _, trivial⟩)) rfl (fun _ => rfl) trivial rfl (fun _ => rfl) (fun _ => rfl) (fun _ _ => ?_)
  refine AO.yld _ (Yld.len Try.underlying31 rfl rfl) rfl rfl rfl ?_
  refine AO.yld _ (Yld.move rfl) rfl rfl rfl ?_
  refine AO.nil ?_
  refine AC.block ?_
  refine AC.loopC [(7, _), (15, _), (16, _)] [(0, _), (1, _)] (fun (k : Nat) => [(17, .p (.v (.int .i64 (k : Int))))]) (fun (k : Nat) => []) (fun (k : Nat) => k ≤ (line xs a).length ∧ anyTo (fun n => decide (n ∈ line xs b)) (line xs a) k = false) (fun (k : Nat) => (line xs a).length - k) 0 ⟨rfl, rfl, rfl, trivial⟩ ⟨rfl, rfl, trivial⟩ ⟨rfl, trivial⟩ trivial ?_ (fun k hJ => ?_)
  · exact ⟨Nat.zero_le _, rfl⟩
  · -- round
    refine AC.seq ?_
    refine AC.region ?_
    refine AO.yld _ (Yld.int rfl rfl rfl) rfl rfl rfl ?_
    refine AO.nil ?_
    refine AC.seq ?_
    refine AC.cond _ rfl (fun c18 => ?_) (fun c18 => ?_)
    · -- c18 True
      have hk := lt_of_decM c18
      obtain ⟨x, hx⟩ := get_some hk
      have hrow := map_row (enc := encI) hx
      refine AC.skip ?_
      refine AC.seq ?_
      refine AC.block ?_
      refine AC.seq ?_
      refine AC.region ?_
      refine AO.yld _ (Yld.indexVec Try.underlying31 Try.sizeOf2 rfl rfl rfl rfl (by simpa using hk)) rfl rfl rfl ?_
      refine AO.yld _ (Yld.load Try.isAgg2 rfl (behind_el rfl hrow)) rfl rfl rfl ?_
      refine AO.yld _ (Yld.assign rfl) rfl rfl rfl ?_
      refine AO.nil ?_
      refine AC.seq ?_
      refine AC.region ?_
      refine AO.yld _ (Yld.move rfl) rfl rfl rfl ?_
      refine AO.yld _ (Yld.move rfl) rfl rfl rfl ?_
      refine AO.yld _ (Yld.call rfl rfl Try.call127 rfl rfl rfl (containsInt_c (by first | assumption | omega)) rfl) rfl rfl rfl ?_
      refine AO.nil ?_
      refine AC.cond _ rfl (fun c23 => ?_) (fun c23 => ?_)
      · -- c23 True
        refine AC.seq ?_
        refine AC.region ?_
        refine AO.yld _ (Yld.move rfl) rfl rfl rfl ?_
        refine AO.yld _ (Yld.assign rfl) rfl rfl rfl ?_
        refine AO.nil ?_
        refine Pure.ret Try.results72 (RVs.cons (RV.tmp rfl) RVs.nil) rfl ?_
        first
          | exact ci (find_hit hJ.2 hx (by simpa using c23))
          | exact ci (find_miss hJ.2)
      · -- c23 False
        refine AC.skip ?_
        refine AC.mark ?_
        refine AC.region ?_
        refine AO.yld _ (Yld.add rfl rfl (by omega) (by omega)) rfl rfl rfl ?_
        refine AO.yld _ (Yld.move rfl) rfl rfl rfl ?_
        refine AO.nil ?_
        refine AC.back ⟨k + 1, ?_, ?_, ⟨?_, trivial⟩, trivial, ⟨rfl, rfl, rfl, trivial⟩, ⟨rfl, rfl, trivial⟩⟩
        · exact ⟨hk, by rw [anyTo_succ hx, hJ.2]; simpa using c23⟩
        · omega
        · rfl
    · -- c18 False
      obtain rfl : k = (line xs a).length := by have := ge_of_decM c18; omega
      refine AC.exit rfl ?_
      refine AC.seq ?_
      refine AC.region ?_
      refine AO.yld _ (Yld.assign rfl) rfl rfl rfl ?_
      refine AO.nil ?_
      refine Pure.ret Try.results72 (RVs.cons (RV.tmp rfl) RVs.nil) rfl ?_
      first
        | exact ci (find_hit hJ.2 hx (by simpa using c23))
        | exact ci (find_miss hJ.2)

theorem spec_l27Common_c {xs : List Ver} {a b : Int} (hg : VersGood xs) (hok : okVers xs = true) (ha : 1 ≤ a ∧ a ≤ xs.length) (hb : 1 ≤ b ∧ b ≤ xs.length) :
    Pure Try.prog 68 [.sl 4 (xs.map encVer), .v (.int .i64 a), .v (.int .i64 b)] (.v (.int .i64 (commonA xs a b))) := by
  have hl32 := vers_len hok
  have hla := line_lim (xs := xs) a
  have hlb := line_lim (xs := xs) b
  have hA : (a :: (line xs a).tail) = line xs a := by rw [line_pos hok (n := a) (by omega)]; rfl
  have hB : (b :: (line xs b).tail) = line xs b := by rw [line_pos hok (n := b) (by omega)]; rfl
  have hlA := congrArg List.length hA
  have hlB := congrArg List.length hB
  refine Pure.intro Try.func68 rfl Try.ntmps68 rfl rfl (fun w => ?_)
  refine AC.seq ?_
  refine AC.region ?_
  refine AO.yld _ (Yld.assign rfl) rfl rfl rfl ?_
  refine AO.nil ?_
  refine AC.seq ?_
  refine AC.region ?_
  refine AO.yld _ (Yld.move rfl) rfl rfl rfl ?_
  refine AO.buildSlice (rows := [[_]]) 0 Try.underlying31 ty2 rfl rfl rfl rfl rfl rfl rfl rfl rfl ?_
  refine AO.yld _ (Yld.move rfl) rfl rfl rfl ?_
  refine AO.yld _ (Yld.move rfl) rfl rfl rfl ?_
  refine AO.callW (wantedN rfl) [1] [] [0] rfl rfl Try.call87 rfl (spec_l27Above_c (by assumption) (by assumption) (by omega) (by omega)) (.flat (.view rfl rfl (.view rfl rfl .nil)) (fun _ => by simp [AV.Flat, AV.FlatL, PV.Flat, PV.FlatL]) (fun _ => ⟨flat_map flatI _, trivial⟩)) rfl (fun _ => rfl) trivial rfl (fun _ => rfl) (fun _ => rfl) (fun _ _ => ?_)
  refine AO.append 0 Try.underlying31 ty2 rfl rfl rfl rfl rfl rfl rfl (fun r hr q hq => by obtain ⟨y, _, rfl⟩ := List.mem_map.1 hr; simp only [encI, List.mem_cons, List.not_mem_nil, or_false] at hq; rcases hq with rfl; rfl) (by simp only [List.length_map, List.length_cons, List.length_nil, List.length_tail]; omega) (by simp only [List.length_map, List.length_cons, List.length_nil, List.length_tail]; omega) rfl ?_
  refine AO.yld _ (Yld.assign rfl) rfl rfl rfl ?_
  refine AO.nil ?_
  refine AC.seq ?_
  refine AC.region ?_
  refine AO.yld _ (Yld.move rfl) rfl rfl rfl ?_
  refine AO.buildSlice (rows := [[_]]) 2 Try.underlying31 ty2 rfl rfl rfl rfl rfl rfl rfl rfl rfl ?_
  refine AO.yld _ (Yld.move rfl) rfl rfl rfl ?_
  refine AO.yld _ (Yld.move rfl) rfl rfl rfl ?_
  refine AO.callW (wantedN rfl) [3] [] [0] rfl rfl Try.call87 rfl (spec_l27Above_c (by assumption) (by assumption) (by omega) (by omega)) (.flat (.view rfl rfl (.view rfl rfl .nil)) (fun _ => by simp [AV.Flat, AV.FlatL, PV.Flat, PV.FlatL]) (fun _ => ⟨flat_map flatI _, trivial⟩)) rfl (fun _ => rfl) trivial rfl (fun _ => rfl) (fun _ => rfl) (fun _ _ => ?_)
  refine AO.append 2 Try.underlying31 ty2 rfl rfl rfl rfl rfl rfl rfl (fun r hr q hq => by obtain ⟨y, _, rfl⟩ := List.mem_map.1 hr; simp only [encI, List.mem_cons, List.not_mem_nil, or_false] at hq; rcases hq with rfl; rfl) (by simp only [List.length_map, List.length_cons, List.length_nil, List.length_tail]; omega) (by simp only [List.length_map, List.length_cons, List.length_nil, List.length_tail]; omega) rfl ?_
  refine AO.yld _ (Yld.assign rfl) rfl rfl rfl ?_
  refine AO.nil ?_
  refine AC.seq ?_
  refine AC.seq ?_
  refine AC.region ?_
  refine AO.yld _ (Yld.assign rfl) rfl rfl rfl ?_
  refine AO.nil ?_
  refine AC.block ?_
  refine AC.loopC [(7, _), (8, _)] [(0, _), (1, _), (2, _), (3, _)] (fun (k : Nat) => [(9, .p (.v (.int .i64 (k : Int))))]) (fun (k : Nat) => []) (fun (k : Nat) => k ≤ (a :: (line xs a).tail).length ∧ anyTo (fun n => decide (n ∈ line xs b)) (a :: (line xs a).tail) k = false) (fun (k : Nat) => (a :: (line xs a).tail).length - k) 0 ⟨rfl, rfl, trivial⟩ ⟨rfl, rfl, rfl, rfl, trivial⟩ ⟨rfl, trivial⟩ trivial ?_ (fun k hJ => ?_)
  · exact ⟨Nat.zero_le _, rfl⟩
  · -- round
    refine AC.seq ?_
    refine AC.seq ?_
    refine AC.region ?_
    refine AO.yld _ (Yld.move rfl) rfl rfl rfl ?_
    refine AO.yld _ (Yld.move rfl) rfl rfl rfl ?_
    refine AO.yld _ (Yld.len Try.underlying31 rfl rfl) rfl rfl rfl ?_
    refine AO.yld _ (Yld.int rfl rfl rfl) rfl rfl rfl ?_
    refine AO.nil ?_
    refine AC.cond _ rfl (fun c25 => ?_) (fun c25 => ?_)
    · -- c25 True
      have hk : k < (a :: (line xs a).tail).length := lt_of_decM (f := encI) c25
      obtain ⟨x, hx⟩ := get_some hk
      have hrow := map_row (enc := encI) hx
      refine AC.skip ?_
      refine AC.seq ?_
      refine AC.block ?_
      refine AC.seq ?_
      refine AC.region ?_
      refine AO.yld _ (Yld.move rfl) rfl rfl rfl ?_
      refine AO.yld _ (Yld.move rfl) rfl rfl rfl ?_
      refine AO.yld _ (Yld.move rfl) rfl rfl rfl ?_
      refine AO.yld _ (Yld.indexVec Try.underlying31 Try.sizeOf2 rfl rfl rfl rfl (show k < ((a :: (line xs a).tail).map encI).length by simpa using hk)) rfl rfl rfl ?_
      refine AO.yld _ (Yld.load Try.isAgg2 rfl (behind_el (rows := (a :: (line xs a).tail).map encI) rfl hrow)) rfl rfl rfl ?_
      refine AO.yld _ (Yld.call rfl rfl Try.call126 rfl rfl rfl (spec_l00Has_c (xs := (b :: (line xs b).tail)) (by omega)) rfl) rfl rfl rfl ?_
      refine AO.nil ?_
      refine AC.cond _ rfl (fun c33 => ?_) (fun c33 => ?_)
      · -- c33 True
        refine AC.seq ?_
        refine AC.region ?_
        refine AO.yld _ (Yld.move rfl) rfl rfl rfl ?_
        refine AO.yld _ (Yld.move rfl) rfl rfl rfl ?_
        refine AO.yld _ (Yld.indexVec Try.underlying31 Try.sizeOf2 rfl rfl rfl rfl (show k < ((a :: (line xs a).tail).map encI).length by simpa using hk)) rfl rfl rfl ?_
        refine AO.yld _ (Yld.load Try.isAgg2 rfl (behind_el (rows := (a :: (line xs a).tail).map encI) rfl hrow)) rfl rfl rfl ?_
        refine AO.yld _ (Yld.assign rfl) rfl rfl rfl ?_
        refine AO.nil ?_
        refine Pure.ret Try.results68 (RVs.cons (RV.tmp rfl) RVs.nil) rfl ?_
        first
          | (refine ci ?_; rw [commonA, ← hA]; exact find_hit hJ.2 hx (by rw [← hB]; simpa using c33))
          | (refine ci ?_; rw [commonA, ← hA]; exact find_miss hJ.2)
      · -- c33 False
        refine AC.skip ?_
        refine AC.mark ?_
        refine AC.region ?_
        refine AO.yld _ (Yld.move rfl) rfl rfl rfl ?_
        refine AO.yld _ (Yld.add rfl rfl (by omega) (by omega)) rfl rfl rfl ?_
        refine AO.yld _ (Yld.assign rfl) rfl rfl rfl ?_
        refine AO.nil ?_
        refine AC.back ⟨k + 1, ?_, ?_, ⟨?_, trivial⟩, trivial, ⟨rfl, rfl, trivial⟩, ⟨rfl, rfl, rfl, rfl, trivial⟩⟩
        · exact ⟨hk, by rw [anyTo_succ hx, hJ.2, ← hB]; simpa using c33⟩
        · omega
        · rfl
    · -- c25 False
      obtain rfl : k = (a :: (line xs a).tail).length := by have h9 := ge_of_decM (xs := (a :: (line xs a).tail)) (f := encI) c25; omega
      refine AC.exit rfl ?_
      refine AC.seq ?_
      refine AC.region ?_
      refine AO.yld _ (Yld.assign rfl) rfl rfl rfl ?_
      refine AO.nil ?_
      refine Pure.ret Try.results68 (RVs.cons (RV.tmp rfl) RVs.nil) rfl ?_
      first
        | (refine ci ?_; rw [commonA, ← hA]; exact find_hit hJ.2 hx (by rw [← hB]; simpa using c33))
        | (refine ci ?_; rw [commonA, ← hA]; exact find_miss hJ.2)

theorem spec_l27Number_c {xs : List Ver} {n : Int} (hg : VersGood xs) :
    Pure Try.prog 67 [.sl 4 (xs.map encVer), .v (.int .i64 n)] (.v (.bool (inVers xs n))) := by
  have hn := hg.1
  refine Pure.intro Try.func67 rfl Try.ntmps67 rfl rfl (fun w => ?_)
  refine AC.seq ?_
  refine AC.region ?_
  refine AO.yld _ (Yld.assign rfl) rfl rfl rfl ?_
  refine AO.nil ?_
  refine AC.seq ?_
  refine AC.region ?_
  refine AO.yld _ (Yld.move rfl) rfl rfl rfl ?_
  refine AO.yld _ (Yld.move rfl) rfl rfl rfl ?_
  refine AO.yld _ (Yld.len Try.underlying26 rfl rfl) rfl rfl rfl ?_
  refine AO.yld _ (Yld.call rfl rfl Try.call77 rfl rfl rfl (spec_l00In_c) rfl) rfl rfl rfl ?_
  refine AO.yld _ (Yld.assign rfl) rfl rfl rfl ?_
  refine AO.nil ?_
  refine Pure.ret Try.results67 (RVs.cons (RV.tmp rfl) RVs.nil) rfl ?_
  refine cb ?_; simp only [inVers, List.length_map]

theorem spec_CommonAncestor_c {xs : List Ver} {a b : Int} (hg : VersGood xs) :
    Pure Try.prog 14 [.sl 4 (xs.map encVer), .v (.int .i64 a), .v (.int .i64 b)] (.tup [.v (.int .i64 (commonAncestor xs a b).1), .v (.int .i64 (commonAncestor xs a b).2)]) := by
  have hn := hg.1
  have hM : (xs.map encVer).length = xs.length := List.length_map ..
  refine Pure.intro Try.func14 rfl Try.ntmps14 rfl rfl (fun w => ?_)
  refine AC.seq ?_
  refine AC.region ?_
  refine AO.yld _ (Yld.assign rfl) rfl rfl rfl ?_
  refine AO.yld _ (Yld.assign rfl) rfl rfl rfl ?_
  refine AO.nil ?_
  refine AC.seq ?_
  refine AC.seq ?_
  refine AC.region ?_
  refine AO.yld _ (Yld.move rfl) rfl rfl rfl ?_
  refine AO.yld _ (Yld.call rfl rfl Try.call66 rfl rfl rfl (spec_l27Ok_c (by assumption)) rfl) rfl rfl rfl ?_
  refine AO.yld _ (Yld.not rfl) rfl rfl rfl ?_
  refine AO.nil ?_
  refine AC.cond _ rfl (fun c10 => ?_) (fun c10 => ?_)
  · -- c10 True
    refine AC.seq ?_
    refine AC.region ?_
    refine AO.yld _ (Yld.assign rfl) rfl rfl rfl ?_
    refine AO.yld _ (Yld.assign rfl) rfl rfl rfl ?_
    refine AO.nil ?_
    refine Pure.retT Try.results14 (RVs.cons (RV.tmp rfl) (RVs.cons (RV.tmp rfl) RVs.nil)) rfl ?_
    first
      | (simp_all [commonAncestor]; done)
      | (simp only [commonAncestor, if_pos hok, hin.1, hin.2]; rfl)
      | (have hno : ¬ (inVers xs a && inVers xs b) = true := (by (try simp only [hM] at *); unfold inVers; first | grind | simp_all); simp only [commonAncestor, if_pos hok, if_neg hno])
  · -- c10 False
    have hok : okVers xs = true := by simpa using c10
    refine AC.skip ?_
    refine AC.seq ?_
    refine AC.seq ?_
    refine AC.region ?_
    refine AO.yld _ (Yld.move rfl) rfl rfl rfl ?_
    refine AO.yld _ (Yld.move rfl) rfl rfl rfl ?_
    refine AO.yld _ (Yld.call rfl rfl Try.call67 rfl rfl rfl (spec_l27Number_c (by assumption)) rfl) rfl rfl rfl ?_
    refine AO.yld _ (Yld.not rfl) rfl rfl rfl ?_
    refine AO.yld _ (Yld.move rfl) rfl rfl rfl ?_
    refine AO.splitAt 15 _ rfl (fun s15 => ?_) (fun s15 => ?_)
    · -- s15 True
      refine AO.skipF rfl rfl rfl rfl rfl ?_
      refine AO.skipF rfl rfl rfl rfl rfl ?_
      refine AO.skipF rfl rfl rfl rfl rfl ?_
      refine AO.skipF rfl rfl rfl rfl rfl ?_
      refine AO.yld _ (Yld.pickT rfl rfl) rfl rfl rfl ?_
      refine AO.nil ?_
      refine AC.condT rfl ?_
      refine AC.seq ?_
      refine AC.region ?_
      refine AO.yld _ (Yld.assign rfl) rfl rfl rfl ?_
      refine AO.yld _ (Yld.assign rfl) rfl rfl rfl ?_
      refine AO.nil ?_
      refine Pure.retT Try.results14 (RVs.cons (RV.tmp rfl) (RVs.cons (RV.tmp rfl) RVs.nil)) rfl ?_
      first
        | (simp_all [commonAncestor]; done)
        | (simp only [commonAncestor, if_pos hok, hin.1, hin.2]; rfl)
        | (have hno : ¬ (inVers xs a && inVers xs b) = true := (by (try simp only [hM] at *); unfold inVers; first | grind | simp_all); simp only [commonAncestor, if_pos hok, if_neg hno])
    · -- s15 False
      refine AO.yldG _ (Yld.move rfl) rfl rfl rfl rfl rfl ?_
      refine AO.yldG _ (Yld.move rfl) rfl rfl rfl rfl rfl ?_
      refine AO.yldG _ (Yld.call rfl rfl Try.call67 rfl rfl rfl (spec_l27Number_c (by assumption)) rfl) rfl rfl rfl rfl rfl ?_
      refine AO.yldG _ (Yld.not rfl) rfl rfl rfl rfl rfl ?_
      refine AO.yld _ (Yld.pickF rfl rfl) rfl rfl rfl ?_
      refine AO.nil ?_
      refine AC.cond _ rfl (fun c20 => ?_) (fun c20 => ?_)
      · -- c20 True
        refine AC.seq ?_
        refine AC.region ?_
        refine AO.yld _ (Yld.assign rfl) rfl rfl rfl ?_
        refine AO.yld _ (Yld.assign rfl) rfl rfl rfl ?_
        refine AO.nil ?_
        refine Pure.retT Try.results14 (RVs.cons (RV.tmp rfl) (RVs.cons (RV.tmp rfl) RVs.nil)) rfl ?_
        first
          | (simp_all [commonAncestor]; done)
          | (simp only [commonAncestor, if_pos hok, hin.1, hin.2]; rfl)
          | (have hno : ¬ (inVers xs a && inVers xs b) = true := (by (try simp only [hM] at *); unfold inVers; first | grind | simp_all); simp only [commonAncestor, if_pos hok, if_neg hno])
      · -- c20 False
        have hin : inVers xs a = true ∧ inVers xs b = true := by (try simp only [hM] at *); first | (simp_all; done) | (unfold inVers; simp_all; done) | (unfold inVers; grind)
        have ha : 1 ≤ a ∧ a ≤ xs.length := by simpa [inVers] using hin.1
        have hb : 1 ≤ b ∧ b ≤ xs.length := by simpa [inVers] using hin.2
        refine AC.skip ?_
        refine AC.seq ?_
        refine AC.region ?_
        refine AO.yld _ (Yld.move rfl) rfl rfl rfl ?_
        refine AO.yld _ (Yld.move rfl) rfl rfl rfl ?_
        refine AO.yld _ (Yld.move rfl) rfl rfl rfl ?_
        refine AO.yld _ (Yld.call rfl rfl Try.call68 rfl rfl rfl (spec_l27Common_c (by assumption) (by assumption) (by omega) (by omega)) rfl) rfl rfl rfl ?_
        refine AO.yld _ (Yld.assign rfl) rfl rfl rfl ?_
        refine AO.yld _ (Yld.assign rfl) rfl rfl rfl ?_
        refine AO.nil ?_
        refine Pure.retT Try.results14 (RVs.cons (RV.tmp rfl) (RVs.cons (RV.tmp rfl) RVs.nil)) rfl ?_
        first
          | (simp_all [commonAncestor]; done)
          | (simp only [commonAncestor, if_pos hok, hin.1, hin.2]; rfl)
          | (have hno : ¬ (inVers xs a && inVers xs b) = true := (by (try simp only [hM] at *); unfold inVers; first | grind | simp_all); simp only [commonAncestor, if_pos hok, if_neg hno])

theorem impl_CommonAncestor_c {xs : List Ver} {a b : Int} (hg : VersGood xs) :
    Pure Try.prog 16 [.sl 4 (xs.map encVer), .v (.int .i64 a), .v (.int .i64 b)] (.tup [.v (.int .i64 (commonAncestor xs a b).1), .v (.int .i64 (commonAncestor xs a b).2)]) := by
  have hn := hg.1
  have hM : (xs.map encVer).length = xs.length := List.length_map ..
  refine Pure.intro Try.func16 rfl Try.ntmps16 rfl rfl (fun w => ?_)
  refine AC.seq ?_
  refine AC.region ?_
  refine AO.yld _ (Yld.assign rfl) rfl rfl rfl ?_
  refine AO.yld _ (Yld.assign rfl) rfl rfl rfl ?_
  refine AO.nil ?_
  refine AC.seq ?_
  refine AC.seq ?_
  refine AC.region ?_
  refine AO.yld _ (Yld.move rfl) rfl rfl rfl ?_
  refine AO.yld _ (Yld.call rfl rfl Try.call70 rfl rfl rfl (impl_ValidHistory_c (by assumption)) rfl) rfl rfl rfl ?_
  refine AO.yld _ (Yld.not rfl) rfl rfl rfl ?_
  refine AO.nil ?_
  refine AC.cond _ rfl (fun c10 => ?_) (fun c10 => ?_)
  · -- c10 True
    refine AC.seq ?_
    refine AC.region ?_
    refine AO.yld _ (Yld.assign rfl) rfl rfl rfl ?_
    refine AO.yld _ (Yld.assign rfl) rfl rfl rfl ?_
    refine AO.nil ?_
    refine Pure.retT Try.results16 (RVs.cons (RV.tmp rfl) (RVs.cons (RV.tmp rfl) RVs.nil)) rfl ?_
    first
      | (simp_all [commonAncestor]; done)
      | (simp only [commonAncestor, if_pos hok, hin.1, hin.2]; rfl)
      | (have hno : ¬ (inVers xs a && inVers xs b) = true := (by (try simp only [hM] at *); unfold inVers; first | grind | simp_all); simp only [commonAncestor, if_pos hok, if_neg hno])
  · -- c10 False
    have hok : okVers xs = true := by simpa using c10
    refine AC.skip ?_
    refine AC.seq ?_
    refine AC.seq ?_
    refine AC.region ?_
    refine AO.yld _ (Yld.move rfl) rfl rfl rfl ?_
    refine AO.yld _ (Yld.move rfl) rfl rfl rfl ?_
    refine AO.yld _ (Yld.len Try.underlying26 rfl rfl) rfl rfl rfl ?_
    refine AO.yld _ (Yld.call rfl rfl Try.call71 rfl rfl rfl (impl_within_c) rfl) rfl rfl rfl ?_
    refine AO.yld _ (Yld.not rfl) rfl rfl rfl ?_
    refine AO.yld _ (Yld.move rfl) rfl rfl rfl ?_
    refine AO.splitAt 16 _ rfl (fun s16 => ?_) (fun s16 => ?_)
    · -- s16 True
      refine AO.skipF rfl rfl rfl rfl rfl ?_
      refine AO.skipF rfl rfl rfl rfl rfl ?_
      refine AO.skipF rfl rfl rfl rfl rfl ?_
      refine AO.skipF rfl rfl rfl rfl rfl ?_
      refine AO.skipF rfl rfl rfl rfl rfl ?_
      refine AO.yld _ (Yld.pickT rfl rfl) rfl rfl rfl ?_
      refine AO.nil ?_
      refine AC.condT rfl ?_
      refine AC.seq ?_
      refine AC.region ?_
      refine AO.yld _ (Yld.assign rfl) rfl rfl rfl ?_
      refine AO.yld _ (Yld.assign rfl) rfl rfl rfl ?_
      refine AO.nil ?_
      refine Pure.retT Try.results16 (RVs.cons (RV.tmp rfl) (RVs.cons (RV.tmp rfl) RVs.nil)) rfl ?_
      first
        | (simp_all [commonAncestor]; done)
        | (simp only [commonAncestor, if_pos hok, hin.1, hin.2]; rfl)
        | (have hno : ¬ (inVers xs a && inVers xs b) = true := (by (try simp only [hM] at *); unfold inVers; first | grind | simp_all); simp only [commonAncestor, if_pos hok, if_neg hno])
    · -- s16 False
      refine AO.yldG _ (Yld.move rfl) rfl rfl rfl rfl rfl ?_
      refine AO.yldG _ (Yld.move rfl) rfl rfl rfl rfl rfl ?_
      refine AO.yldG _ (Yld.len Try.underlying26 rfl rfl) rfl rfl rfl rfl rfl ?_
      refine AO.yldG _ (Yld.call rfl rfl Try.call71 rfl rfl rfl (impl_within_c) rfl) rfl rfl rfl rfl rfl ?_
      refine AO.yldG _ (Yld.not rfl) rfl rfl rfl rfl rfl ?_
      refine AO.yld _ (Yld.pickF rfl rfl) rfl rfl rfl ?_
      refine AO.nil ?_
      refine AC.cond _ rfl (fun c22 => ?_) (fun c22 => ?_)
      · -- c22 True
        refine AC.seq ?_
        refine AC.region ?_
        refine AO.yld _ (Yld.assign rfl) rfl rfl rfl ?_
        refine AO.yld _ (Yld.assign rfl) rfl rfl rfl ?_
        refine AO.nil ?_
        refine Pure.retT Try.results16 (RVs.cons (RV.tmp rfl) (RVs.cons (RV.tmp rfl) RVs.nil)) rfl ?_
        first
          | (simp_all [commonAncestor]; done)
          | (simp only [commonAncestor, if_pos hok, hin.1, hin.2]; rfl)
          | (have hno : ¬ (inVers xs a && inVers xs b) = true := (by (try simp only [hM] at *); unfold inVers; first | grind | simp_all); simp only [commonAncestor, if_pos hok, if_neg hno])
      · -- c22 False
        have hin : inVers xs a = true ∧ inVers xs b = true := by (try simp only [hM] at *); first | (simp_all; done) | (unfold inVers; simp_all; done) | (unfold inVers; grind)
        have ha : 1 ≤ a ∧ a ≤ xs.length := by simpa [inVers] using hin.1
        have hb : 1 ≤ b ∧ b ≤ xs.length := by simpa [inVers] using hin.2
        refine AC.skip ?_
        refine AC.seq ?_
        refine AC.region ?_
        refine AO.yld _ (Yld.move rfl) rfl rfl rfl ?_
        refine AO.yld _ (Yld.move rfl) rfl rfl rfl ?_
        refine AO.yld _ (Yld.move rfl) rfl rfl rfl ?_
        refine AO.yld _ (Yld.call rfl rfl Try.call72 rfl rfl rfl (impl_commonAncestor_c (by assumption) (by assumption) (by omega) (by omega)) rfl) rfl rfl rfl ?_
        refine AO.yld _ (Yld.assign rfl) rfl rfl rfl ?_
        refine AO.yld _ (Yld.assign rfl) rfl rfl rfl ?_
        refine AO.nil ?_
        refine Pure.retT Try.results16 (RVs.cons (RV.tmp rfl) (RVs.cons (RV.tmp rfl) RVs.nil)) rfl ?_
        first
          | (simp_all [commonAncestor]; done)
          | (simp only [commonAncestor, if_pos hok, hin.1, hin.2]; rfl)
          | (have hno : ¬ (inVers xs a && inVers xs b) = true := (by (try simp only [hM] at *); unfold inVers; first | grind | simp_all); simp only [commonAncestor, if_pos hok, if_neg hno])

end Go.Proofs.Ytiilobkfonjlhaa
