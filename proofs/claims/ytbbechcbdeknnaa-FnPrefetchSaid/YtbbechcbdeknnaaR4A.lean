/- Contracts of functions of the program, each by a walk of its text in the calculus V. -/
import Derived.Test.YtbbechcbdeknnaaR3C
import Derived.Test.YtbbechcbdeknnaaD14
set_option linter.all false
set_option linter.unusedSimpArgs false
set_option linter.unnecessarySimpa false
set_option linter.unusedVariables false
namespace Go.Proofs.Ytbbechcbdeknnaa
open Go Go.V
theorem ty2 : TyIs Try.prog 2 (.int .i64 0) 1 8 := by unfold TyIs; kernel_rfl

theorem impl_LoadPlan_c {ms xs : List NV} (hm : ms.length ≤ 1048576) (hms : ∀ x ∈ ms, x.name.length ≤ 1048576) (hn : xs.length ≤ 1048576) (hs : ∀ x ∈ xs, x.name.length ≤ 1048576) {b : Int} :
    FnE (α := Unit) Try.prog 7 [.p (.sl 2 (ms.map encNV)), .p (.sl 2 (xs.map encNV)), .p (.v (.int .i64 b))] [] [] (fun _ => True) (fun _ => .tup [.h 0, .p (.v (.int .i64 (loadPlan ms xs b).2))]) (fun _ => [(0, .vec 2 1 ((loadPlan ms xs b).1.map encI))]) := by
  have hM : (xs.map encNV).length = xs.length := List.length_map ..
  refine FnE.intro Try.func7 rfl Try.ntmps7 rfl rfl (fun w0 F0 η φ w => ?_)
  refine AC.seq ?_
  refine AC.region ?_
  refine AO.yld _ (Yld.assign rfl) rfl rfl rfl ?_
  refine AO.yld _ (Yld.assign rfl) rfl rfl rfl ?_
  refine AO.nil ?_
  refine AC.seq ?_
  refine AC.seq ?_
  refine AC.region ?_
  refine AO.yld _ (Yld.move rfl) rfl rfl rfl ?_
  refine AO.yld _ (Yld.move rfl) rfl rfl rfl ?_
  refine AO.yld _ (Yld.move rfl) rfl rfl rfl ?_
  refine AO.yld _ (Yld.call rfl rfl Try.call14 rfl rfl rfl (impl_checkNeeds_c (by first | assumption | omega) (by assumption) (by first | assumption | omega) (by assumption)) rfl) rfl rfl rfl ?_
  refine AO.yld _ (Yld.assign rfl) rfl rfl rfl ?_
  refine AO.nil ?_
  refine AC.seq ?_
  refine AC.region ?_
  refine AO.yld _ (Yld.move rfl) rfl rfl rfl ?_
  refine AO.yld _ (Yld.int rfl rfl rfl) rfl rfl rfl ?_
  refine AO.nil ?_
  refine AC.cond _ rfl (fun c18 => ?_) (fun c18 => ?_)
  · -- c18 True
    refine AC.seq ?_
    refine AC.region ?_
    refine AO.yld _ (Yld.move rfl) rfl rfl rfl ?_
    refine AO.yld _ (Yld.assign rfl) rfl rfl rfl ?_
    refine AO.yld _ (Yld.assign rfl) rfl rfl rfl ?_
    refine AO.nil ?_
    refine AC.nilVec 6 0 2 1 rfl rfl ?_
    refine FnE.ret () [0] [0] Try.results7 (RVs.cons (RV.tmp rfl) (RVs.cons (RV.tmp rfl) RVs.nil)) rfl rfl rfl ?_ ?_ ⟨⟨_, rfl, ?_⟩, trivial⟩
    · -- holds
      trivial
    · -- value
      refine tupE ?_; first | (simp_all [loadPlan]; done) | grind [loadPlan]
    · -- thing 0
      refine vecE ?_; first | (simp_all [loadPlan]; done) | (rw [loadPlan, if_pos hk0]; have h9 := filled_end (enc := encI) (z := [.v (.int .i64 0)]) (xs := planL ms xs b xs.length); rw [planL_len] at h9; exact h9)
  · -- c18 False
    have hk0 : askNeeds ms xs b = 0 := by first | (simpa using c18) | (exact absurd c18 (by decide))
    obtain ⟨hok, hb⟩ := ask_needs hk0
    have hl16 := (needs_ok hok).2.2
    refine AC.skip ?_
    refine AC.seq ?_
    refine AC.region ?_
    refine AO.yld _ (Yld.move rfl) rfl rfl rfl ?_
    refine AO.yld _ (Yld.len Try.underlying26 rfl rfl) rfl rfl rfl ?_
    refine AO.make 0 Try.underlying32 ty2 rfl rfl rfl rfl rfl (Nat.le_refl _) (by rw [hM]; omega) (by rw [hM]; omega) rfl rfl ?_
    refine AO.yld _ (Yld.assign rfl) rfl rfl rfl ?_
    refine AO.nil ?_
    refine AC.seq ?_
    refine AC.region ?_
    refine AO.yld _ (Yld.assign rfl) rfl rfl rfl ?_
    refine AO.nil ?_
    refine AC.seq ?_
    refine AC.seq ?_
    refine AC.region ?_
    refine AO.yld _ (Yld.move rfl) rfl rfl rfl ?_
    refine AO.yld _ (Yld.len Try.underlying26 rfl rfl) rfl rfl rfl ?_
    refine AO.yld _ (Yld.move rfl) rfl rfl rfl ?_
    refine AO.nil ?_
    refine AC.block ?_
    refine AC.loopC [(0, _), (2, _), (6, _), (7, _), (9, _), (23, _), (24, _)] [(900, _)] (fun (k : Nat) => [(25, .p (.v (.int .i64 (k : Int)))), (10, .p (.v (.int .i64 (sumTo (loadT ms b) xs k)))), (9, .h 0)]) (fun (k : Nat) => [(0, .vec 2 1 (filled encI [.v (.int .i64 0)] (planL ms xs b xs.length) k))]) (fun (k : Nat) => k ≤ xs.length) (fun (k : Nat) => xs.length - k) 0 ⟨rfl, rfl, rfl, rfl, rfl, rfl, rfl, trivial⟩ ⟨rfl, trivial⟩ ⟨rfl, rfl, rfl, trivial⟩ ⟨by rw [filled_zero, planL_len, ← hM]; rfl, trivial⟩ ?_ (fun k hJ => ?_)
    · exact Nat.zero_le _
    · -- round
      refine AC.seq ?_
      refine AC.region ?_
      refine AO.yld _ (Yld.int rfl rfl rfl) rfl rfl rfl ?_
      refine AO.nil ?_
      refine AC.seq ?_
      refine AC.cond _ rfl (fun c26 => ?_) (fun c26 => ?_)
      · -- c26 True
        have hk := lt_of_decM c26
        obtain ⟨x, hx⟩ := get_some hk
        have hrow := map_row (enc := encNV) hx
        have hlx := loadT_lim (needs_ok hok).1 hb.1 x
        have hsl := lookup_lim (needs_ok hok).1 x.name
        have hsk := sums_lim (xs := xs) (needs_ok hok).1 hb.1 k
        have hsk1 := sums_lim (xs := xs) (needs_ok hok).1 hb.1 (k + 1)
        have hss := sumTo_succ (f := loadT ms b) hx
        have hld : loadT ms b x = (1000 * lookup ms x.name + b - 1) / b := rfl
        have hnl := need_lim (allI_at (needs_ok hok).2.1 hx)
        have hll := lateTo_lim hok hb.1 k
        have hl16 := (needs_ok hok).2.2
        refine AC.skip ?_
        refine AC.seq ?_
        refine AC.block ?_
        refine AC.seq ?_
        refine AC.region ?_
        refine AO.yld _ (Yld.move rfl) rfl rfl rfl ?_
        refine AO.yld _ (Yld.indexSl Try.underlying26 Try.sizeOf31 rfl rfl hrow rfl) rfl rfl rfl ?_
        refine AO.yld _ (Yld.loadAgg Try.isAgg31 Try.sizeOf31 rfl rfl rfl rfl) rfl rfl rfl ?_
        refine AO.alloc 1 Try.zeroValue31 rfl rfl rfl ?_
        refine AO.yld _ (Yld.assign rfl) rfl rfl rfl ?_
        refine AO.store Try.sizeOf31 rfl rfl rfl rfl rfl rfl ?_
        refine AO.nil ?_
        refine AC.seq ?_
        refine AC.region ?_
        refine AO.yld _ (Yld.move rfl) rfl rfl rfl ?_
        refine AO.yld _ (Yld.move rfl) rfl rfl rfl ?_
        refine AO.yld _ (Yld.move rfl) rfl rfl rfl ?_
        refine AO.yld _ (Yld.indexVec Try.underlying32 Try.sizeOf2 rfl rfl rfl rfl (by rw [filled_length (by rw [planL_len]; omega), planL_len]; exact hk)) rfl rfl rfl ?_
        refine AO.store Try.sizeOf2 rfl rfl rfl rfl rfl (store_el rfl (filled_get (by rw [planL_len]; exact hk)) rfl rfl) ?_
        refine AO.nil ?_
        refine AC.region ?_
        refine AO.yld _ (Yld.move rfl) rfl rfl rfl ?_
        refine AO.yld _ (Yld.move rfl) rfl rfl rfl ?_
        refine AO.yld _ (Yld.fieldAddr Try.underlying31 rfl rfl Try.sizeOf9 rfl rfl rfl) rfl rfl rfl ?_
        refine AO.yld _ (Yld.load Try.isAgg9 rfl rfl) rfl rfl rfl ?_
        refine AO.yld _ (Yld.call rfl rfl Try.call16 rfl rfl rfl (impl_sizeOf_c (by first | assumption | omega)) rfl) rfl rfl rfl ?_
        refine AO.yld _ (Yld.mul rfl rfl (by omega) (by omega)) rfl rfl rfl ?_
        refine AO.yld _ (Yld.move rfl) rfl rfl rfl ?_
        refine AO.yld _ (Yld.call rfl rfl Try.call15 rfl rfl rfl (impl_quotientUp_c (by omega) (by omega) (by omega)) rfl) rfl rfl rfl ?_
        refine AO.yld _ (Yld.add rfl rfl (by omega) (by omega)) rfl rfl rfl ?_
        refine AO.yld _ (Yld.assign rfl) rfl rfl rfl ?_
        refine AO.nil ?_
        refine AC.mark ?_
        refine AC.region ?_
        refine AO.yld _ (Yld.add rfl rfl (by omega) (by omega)) rfl rfl rfl ?_
        refine AO.yld _ (Yld.move rfl) rfl rfl rfl ?_
        refine AO.nil ?_
        refine AC.back ⟨k + 1, ?_, ?_, ⟨?_, ?_, ?_, trivial⟩, ⟨?_, trivial⟩, ⟨rfl, rfl, rfl, rfl, rfl, rfl, rfl, trivial⟩, ⟨rfl, trivial⟩⟩
        · exact hk
        · omega
        · rfl
        · show some (AV.p (PV.v (Value.int IntKind.i64 _))) = _; rw [sumTo_succ hx]; rfl
        · rfl
        · rw [← filled_set (planL_get hk)]; rfl
      · -- c26 False
        obtain rfl : k = xs.length := by have := ge_of_decM c26; omega
        refine AC.exit rfl ?_
        refine AC.seq ?_
        refine AC.region ?_
        refine AO.yld _ (Yld.move rfl) rfl rfl rfl ?_
        refine AO.yld _ (Yld.assign rfl) rfl rfl rfl ?_
        refine AO.yld _ (Yld.assign rfl) rfl rfl rfl ?_
        refine AO.nil ?_
        refine FnE.ret () [0] [0] Try.results7 (RVs.cons (RV.tmp rfl) (RVs.cons (RV.tmp rfl) RVs.nil)) rfl rfl rfl ?_ ?_ ⟨⟨_, rfl, ?_⟩, trivial⟩
        · -- holds
          trivial
        · -- value
          refine tupE ?_; first | (simp_all [loadPlan]; done) | grind [loadPlan]
        · -- thing 0
          refine vecE ?_; first | (simp_all [loadPlan]; done) | (rw [loadPlan, if_pos hk0]; have h9 := filled_end (enc := encI) (z := [.v (.int .i64 0)]) (xs := planL ms xs b xs.length); rw [planL_len] at h9; exact h9)

theorem impl_LatestLoads_c {ms xs : List NV} (hm : ms.length ≤ 1048576) (hms : ∀ x ∈ ms, x.name.length ≤ 1048576) (hn : xs.length ≤ 1048576) (hs : ∀ x ∈ xs, x.name.length ≤ 1048576) {b : Int} :
    FnE (α := Unit) Try.prog 9 [.p (.sl 2 (ms.map encNV)), .p (.sl 2 (xs.map encNV)), .p (.v (.int .i64 b))] [] [] (fun _ => True) (fun _ => .tup [.h 0, .p (.v (.int .i64 (latestLoads ms xs b).2))]) (fun _ => [(0, .vec 2 1 ((latestLoads ms xs b).1.map encI))]) := by
  have hM : (xs.map encNV).length = xs.length := List.length_map ..
  refine FnE.intro Try.func9 rfl Try.ntmps9 rfl rfl (fun w0 F0 η φ w => ?_)
  refine AC.seq ?_
  refine AC.region ?_
  refine AO.yld _ (Yld.assign rfl) rfl rfl rfl ?_
  refine AO.yld _ (Yld.assign rfl) rfl rfl rfl ?_
  refine AO.nil ?_
  refine AC.seq ?_
  refine AC.seq ?_
  refine AC.region ?_
  refine AO.yld _ (Yld.move rfl) rfl rfl rfl ?_
  refine AO.yld _ (Yld.move rfl) rfl rfl rfl ?_
  refine AO.yld _ (Yld.move rfl) rfl rfl rfl ?_
  refine AO.yld _ (Yld.call rfl rfl Try.call14 rfl rfl rfl (impl_checkNeeds_c (by first | assumption | omega) (by assumption) (by first | assumption | omega) (by assumption)) rfl) rfl rfl rfl ?_
  refine AO.yld _ (Yld.assign rfl) rfl rfl rfl ?_
  refine AO.nil ?_
  refine AC.seq ?_
  refine AC.region ?_
  refine AO.yld _ (Yld.move rfl) rfl rfl rfl ?_
  refine AO.yld _ (Yld.int rfl rfl rfl) rfl rfl rfl ?_
  refine AO.nil ?_
  refine AC.cond _ rfl (fun c17 => ?_) (fun c17 => ?_)
  · -- c17 True
    refine AC.seq ?_
    refine AC.region ?_
    refine AO.yld _ (Yld.move rfl) rfl rfl rfl ?_
    refine AO.yld _ (Yld.assign rfl) rfl rfl rfl ?_
    refine AO.yld _ (Yld.assign rfl) rfl rfl rfl ?_
    refine AO.nil ?_
    refine AC.nilVec 6 0 2 1 rfl rfl ?_
    refine FnE.ret () [0] [0] Try.results9 (RVs.cons (RV.tmp rfl) (RVs.cons (RV.tmp rfl) RVs.nil)) rfl rfl rfl ?_ ?_ ⟨⟨_, rfl, ?_⟩, trivial⟩
    · -- holds
      trivial
    · -- value
      refine tupE ?_; first | (simp_all [latestLoads]; done) | (rw [latest_good hk0 hJ.2]) | (rw [latest_bad hk0 hneg hj])
    · -- thing 0
      refine vecE ?_; first | (simp_all [latestLoads]; done) | (rw [endRows_end, latest_good hk0 hJ.2]) | (rw [latest_bad hk0 hneg hj]; done) | (rw [latest_bad hk0 hneg hj]; rfl)
  · -- c17 False
    have hk0 : askNeeds ms xs b = 0 := by first | (simpa using c17) | (exact absurd c17 (by decide))
    obtain ⟨hok, hb⟩ := ask_needs hk0
    have hl16 := (needs_ok hok).2.2
    refine AC.skip ?_
    refine AC.seq ?_
    refine AC.region ?_
    refine AO.yld _ (Yld.move rfl) rfl rfl rfl ?_
    refine AO.yld _ (Yld.len Try.underlying26 rfl rfl) rfl rfl rfl ?_
    refine AO.make 0 Try.underlying32 ty2 rfl rfl rfl rfl rfl (Nat.le_refl _) (by rw [hM]; omega) (by rw [hM]; omega) rfl rfl ?_
    refine AO.yld _ (Yld.assign rfl) rfl rfl rfl ?_
    refine AO.nil ?_
    refine AC.seq ?_
    refine AC.region ?_
    refine AO.yld _ (Yld.assign rfl) rfl rfl rfl ?_
    refine AO.nil ?_
    refine AC.seq ?_
    refine AC.seq ?_
    refine AC.region ?_
    refine AO.yld _ (Yld.move rfl) rfl rfl rfl ?_
    refine AO.yld _ (Yld.len Try.underlying26 rfl rfl) rfl rfl rfl ?_
    refine AO.yld _ (Yld.sub rfl rfl (by rw [hM]; omega) (by rw [hM]; omega)) rfl rfl rfl ?_
    refine AO.yld _ (Yld.assign rfl) rfl rfl rfl ?_
    refine AO.nil ?_
    refine AC.block ?_
    refine AC.loopC [(0, _), (1, _), (2, _), (9, _)] [(900, _)] (fun (j : Nat) => [(11, .p (.v (.int .i64 ((xs.length : Int) - 1 - j)))), (10, .p (.v (.int .i64 (endF ms xs b j)))), (9, .h 0)]) (fun (j : Nat) => [(0, .vec 2 1 (endRows ms xs b j))]) (fun (j : Nat) => j ≤ xs.length ∧ endOk ms xs b j = true) (fun (j : Nat) => xs.length - j) 0 ⟨rfl, rfl, rfl, rfl, trivial⟩ ⟨rfl, trivial⟩ ⟨by show some (AV.p (PV.v (Value.int IntKind.i64 _))) = _; rw [hM]; simp, rfl, rfl, trivial⟩ ⟨by rw [endRows_zero, ← hM]; rfl, trivial⟩ ?_ (fun j hJ => ?_)
    · exact ⟨Nat.zero_le _, rfl⟩
    · -- round
      refine AC.seq ?_
      refine AC.seq ?_
      refine AC.region ?_
      refine AO.yld _ (Yld.move rfl) rfl rfl rfl ?_
      refine AO.yld _ (Yld.int rfl rfl rfl) rfl rfl rfl ?_
      refine AO.nil ?_
      refine AC.cond _ rfl (fun c26 => ?_) (fun c26 => ?_)
      · -- c26 True
        have hj : j < xs.length := by have h := c26; simp at h; omega
        obtain ⟨x, hx⟩ := get_some (xs := xs) (k := xs.length - 1 - j) (by omega)
        have hrow := map_row (enc := encNV) hx
        have hlx := loadT_lim (needs_ok hok).1 hb.1 x
        have hsl := lookup_lim (needs_ok hok).1 x.name
        have hnl := need_lim (allI_at (needs_ok hok).2.1 hx)
        have hel := endF_lim hok hb.1 j
        have hes : endF ms xs b (j + 1) = min (endF ms xs b j) x.val - (1000 * lookup ms x.name + b - 1) / b := endF_succ hx
        have hld : loadT ms b x = (1000 * lookup ms x.name + b - 1) / b := rfl
        refine AC.skip ?_
        refine AC.seq ?_
        refine AC.block ?_
        refine AC.seq ?_
        refine AC.draw (by kernel_rfl) (by kernel_rfl) ?_
        refine AO.yld _ (Yld.move rfl) rfl rfl rfl ?_
        refine AO.yld _ (Yld.move rfl) rfl rfl rfl ?_
        refine AO.yld _ (Yld.move rfl) rfl rfl rfl ?_
        refine AO.yld _ (Yld.indexSl Try.underlying26 Try.sizeOf31 rfl rfl hrow (by omega)) rfl rfl rfl ?_
        refine AO.yld _ (Yld.fieldAddr Try.underlying31 rfl rfl Try.sizeOf2 rfl rfl rfl) rfl rfl rfl ?_
        refine AO.yld _ (Yld.load Try.isAgg2 rfl rfl) rfl rfl rfl ?_
        refine AO.yld _ (Yld.min2 rfl rfl) rfl rfl rfl ?_
        refine AO.yld _ (Yld.move rfl) rfl rfl rfl ?_
        refine AO.yld _ (Yld.move rfl) rfl rfl rfl ?_
        refine AO.yld _ (Yld.move rfl) rfl rfl rfl ?_
        refine AO.yld _ (Yld.indexSl Try.underlying26 Try.sizeOf31 rfl rfl hrow (by omega)) rfl rfl rfl ?_
        refine AO.yld _ (Yld.fieldAddr Try.underlying31 rfl rfl Try.sizeOf9 rfl rfl rfl) rfl rfl rfl ?_
        refine AO.yld _ (Yld.load Try.isAgg9 rfl rfl) rfl rfl rfl ?_
        refine AO.yld _ (Yld.call rfl rfl Try.call16 rfl rfl rfl (impl_sizeOf_c (by first | assumption | omega)) rfl) rfl rfl rfl ?_
        refine AO.yld _ (Yld.mul rfl rfl (by omega) (by omega)) rfl rfl rfl ?_
        refine AO.yld _ (Yld.move rfl) rfl rfl rfl ?_
        refine AO.yld _ (Yld.call rfl rfl Try.call15 rfl rfl rfl (impl_quotientUp_c (by omega) (by omega) (by omega)) rfl) rfl rfl rfl ?_
        refine AO.yld _ (Yld.sub rfl rfl (by omega) (by omega)) rfl rfl rfl ?_
        refine AO.yld _ (Yld.assign rfl) rfl rfl rfl ?_
        refine AO.nil ?_
        refine AC.seq ?_
        refine AC.seq ?_
        refine AC.region ?_
        refine AO.yld _ (Yld.move rfl) rfl rfl rfl ?_
        refine AO.yld _ (Yld.int rfl rfl rfl) rfl rfl rfl ?_
        refine AO.nil ?_
        refine AC.cond _ rfl (fun c48 => ?_) (fun c48 => ?_)
        · -- c48 True
          have hneg : endF ms xs b (j + 1) < 0 := by rw [hes]; simpa using c48
          refine AC.seq ?_
          refine AC.region ?_
          refine AO.yld _ (Yld.assign rfl) rfl rfl rfl ?_
          refine AO.yld _ (Yld.assign rfl) rfl rfl rfl ?_
          refine AO.nil ?_
          refine AC.nilVec 6 1 2 1 rfl rfl ?_
          refine FnE.ret () [1] [0] Try.results9 (RVs.cons (RV.tmp rfl) (RVs.cons (RV.tmp rfl) RVs.nil)) rfl rfl rfl ?_ ?_ ⟨⟨_, rfl, ?_⟩, trivial⟩
          · -- holds
            trivial
          · -- value
            refine tupE ?_; first | (simp_all [latestLoads]; done) | (rw [latest_good hk0 hJ.2]) | (rw [latest_bad hk0 hneg hj])
          · -- thing 0
            refine vecE ?_; first | (simp_all [latestLoads]; done) | (rw [endRows_end, latest_good hk0 hJ.2]) | (rw [latest_bad hk0 hneg hj]; done) | (rw [latest_bad hk0 hneg hj]; rfl)
        · -- c48 False
          refine AC.skip ?_
          refine AC.region ?_
          refine AO.yld _ (Yld.move rfl) rfl rfl rfl ?_
          refine AO.yld _ (Yld.move rfl) rfl rfl rfl ?_
          refine AO.yld _ (Yld.move rfl) rfl rfl rfl ?_
          refine AO.yld _ (Yld.indexVec Try.underlying32 Try.sizeOf2 rfl rfl rfl (show _ = ((xs.length - 1 - j : Nat) : Int) by omega) (by rw [endRows_len _ _ _ (by omega)]; omega)) rfl rfl rfl ?_
          refine AO.store Try.sizeOf2 rfl rfl rfl rfl rfl (store_el rfl (endRows_get hj) rfl rfl) ?_
          refine AO.nil ?_
          refine AC.mark ?_
          refine AC.region ?_
          refine AO.yld _ (Yld.move rfl) rfl rfl rfl ?_
          refine AO.yld _ (Yld.sub rfl rfl (by omega) (by omega)) rfl rfl rfl ?_
          refine AO.yld _ (Yld.assign rfl) rfl rfl rfl ?_
          refine AO.nil ?_
          refine AC.back ⟨j + 1, ?_, ?_, ⟨?_, ?_, ?_, trivial⟩, ⟨?_, trivial⟩, ⟨rfl, rfl, rfl, rfl, trivial⟩, ⟨rfl, trivial⟩⟩
          · exact ⟨hj, by simp only [endOk, hJ.2, Bool.true_and, decide_eq_true_eq]; have h9 := c48; rw [hes]; simp at h9; omega⟩
          · omega
          · show some (AV.p (PV.v (Value.int IntKind.i64 _))) = _; congr 4 <;> omega
          · show some (AV.p (PV.v (Value.int IntKind.i64 _))) = _; rw [hes]; try rfl
          · rfl
          · rw [← endRows_set hj, hes]; rfl
      · -- c26 False
        obtain rfl : j = xs.length := by have h := c26; simp at h; omega
        refine AC.exit rfl ?_
        refine AC.seq ?_
        refine AC.region ?_
        refine AO.yld _ (Yld.move rfl) rfl rfl rfl ?_
        refine AO.yld _ (Yld.assign rfl) rfl rfl rfl ?_
        refine AO.yld _ (Yld.assign rfl) rfl rfl rfl ?_
        refine AO.nil ?_
        refine FnE.ret () [0] [0] Try.results9 (RVs.cons (RV.tmp rfl) (RVs.cons (RV.tmp rfl) RVs.nil)) rfl rfl rfl ?_ ?_ ⟨⟨_, rfl, ?_⟩, trivial⟩
        · -- holds
          trivial
        · -- value
          refine tupE ?_; first | (simp_all [latestLoads]; done) | (rw [latest_good hk0 hJ.2]) | (rw [latest_bad hk0 hneg hj])
        · -- thing 0
          refine vecE ?_; first | (simp_all [latestLoads]; done) | (rw [endRows_end, latest_good hk0 hJ.2]) | (rw [latest_bad hk0 hneg hj]; done) | (rw [latest_bad hk0 hneg hj]; rfl)

end Go.Proofs.Ytbbechcbdeknnaa
