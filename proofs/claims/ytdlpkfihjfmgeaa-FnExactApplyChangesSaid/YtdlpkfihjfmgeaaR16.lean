/- Contracts of functions of the program, each by a walk of its text in the calculus V. -/
import Derived.Test.YtdlpkfihjfmgeaaR5B
import Derived.Test.YtdlpkfihjfmgeaaX2
import Derived.Test.YtdlpkfihjfmgeaaD53
import Derived.Test.YtdlpkfihjfmgeaaV22
set_option linter.all false
set_option linter.unusedSimpArgs false
set_option linter.unnecessarySimpa false
set_option linter.unusedVariables false
namespace Go.Proofs.Ytdlpkfihjfmgeaa
open Go Go.V
theorem ty64 : TyIs Try.prog 64 (.agg #[.int .i64 0, .string ⟨#[]⟩, .int .i64 0]) 3 32 := by unfold TyIs; kernel_rfl

theorem laws_toChange_c {x : Chg} :
    Pure Try.prog 35 [.agg (encChg x)] (.agg (encChg x)) := by
  refine Pure.intro Try.func35 rfl Try.ntmps35 rfl rfl (fun w => ?_)
  refine AC.seq ?_
  refine AC.region ?_
  refine AO.box 0 rfl rfl rfl rfl rfl ?_
  refine AO.alloc 1 Try.zeroValue64 rfl rfl rfl ?_
  refine AO.nil ?_
  refine AC.seq ?_
  refine AC.region ?_
  refine AO.alloc 2 Try.zeroValue64 rfl rfl rfl ?_
  refine AO.nil ?_
  refine AC.seq ?_
  refine AC.region ?_
  refine AO.yld _ (Yld.fieldAddr Try.underlying59 rfl rfl Try.sizeOf2 rfl rfl rfl) rfl rfl rfl ?_
  refine AO.yld _ (Yld.load Try.isAgg2 rfl rfl) rfl rfl rfl ?_
  refine AO.yld _ (Yld.fieldAddr Try.underlying64 rfl rfl Try.sizeOf2 rfl rfl rfl) rfl rfl rfl ?_
  refine AO.store Try.sizeOf2 rfl rfl rfl rfl rfl rfl ?_
  refine AO.nil ?_
  refine AC.seq ?_
  refine AC.region ?_
  refine AO.yld _ (Yld.fieldAddr Try.underlying59 rfl rfl Try.sizeOf56 rfl rfl rfl) rfl rfl rfl ?_
  refine AO.yld _ (Yld.loadAgg Try.isAgg56 Try.sizeOf56 rfl rfl rfl rfl) rfl rfl rfl ?_
  refine AO.yld _ (Yld.call rfl rfl Try.call34 rfl rfl rfl (laws_toSetting_c) rfl) rfl rfl rfl ?_
  refine AO.yld _ (Yld.fieldAddr Try.underlying64 rfl rfl Try.sizeOf62 rfl rfl rfl) rfl rfl rfl ?_
  refine AO.store Try.sizeOf62 rfl rfl rfl rfl rfl rfl ?_
  refine AO.nil ?_
  refine AC.seq ?_
  refine AC.region ?_
  refine AO.yld _ (Yld.loadAgg Try.isAgg64 Try.sizeOf64 rfl rfl rfl rfl) rfl rfl rfl ?_
  refine AO.store Try.sizeOf64 rfl rfl rfl rfl rfl rfl ?_
  refine AO.nil ?_
  refine Pure.ret Try.results35 (RVs.cons (RV.cell Try.isAgg64 Try.sizeOf64 rfl rfl rfl rfl) RVs.nil) rfl ?_
  first | rfl | (simp_all; done) | (simp_all; intros; omega) | grind

theorem laws_toChangeS_c {xs : List Chg} (hn : xs.length ≤ 1048576) :
    Mk Try.prog 9 [.sl 3 (xs.map encChg)] (.h 0) 64 3 (xs.map encChg) := by
  have hM : (xs.map encChg).length = xs.length := List.length_map ..
  refine Mk.intro Try.func9 rfl Try.ntmps9 rfl rfl (fun w => ?_)
  refine AC.seq ?_
  refine AC.region ?_
  refine AO.yld _ (Yld.assign rfl) rfl rfl rfl ?_
  refine AO.nil ?_
  refine AC.seq ?_
  refine AC.region ?_
  refine AO.yld _ (Yld.move rfl) rfl rfl rfl ?_
  refine AO.yld _ (Yld.len Try.underlying23 rfl rfl) rfl rfl rfl ?_
  refine AO.make 0 Try.underlying30 ty64 rfl rfl rfl rfl rfl (Nat.le_refl _) (by rw [hM]; omega) (by rw [hM]; omega) rfl rfl ?_
  refine AO.yld _ (Yld.assign rfl) rfl rfl rfl ?_
  refine AO.nil ?_
  refine AC.seq ?_
  refine AC.seq ?_
  refine AC.region ?_
  refine AO.yld _ (Yld.assign rfl) rfl rfl rfl ?_
  refine AO.nil ?_
  refine AC.block ?_
  refine AC.loopC [(0, _), (2, _), (3, _)] [] (fun (k : Nat) => [(4, .p (.v (.int .i64 (k : Int))))]) (fun (k : Nat) => [(0, .vec 64 3 (filled encChg [.v (.int .i64 0), .v (.string ⟨#[]⟩), .v (.int .i64 0)] xs k))]) (fun (k : Nat) => k ≤ xs.length) (fun (k : Nat) => xs.length - k) 0 ⟨rfl, rfl, rfl, trivial⟩ trivial ⟨rfl, trivial⟩ ⟨by rw [filled_zero, ← hM]; rfl, trivial⟩ ?_ (fun k hJ => ?_)
  · simp
  · -- round
    refine AC.seq ?_
    refine AC.seq ?_
    refine AC.region ?_
    refine AO.yld _ (Yld.move rfl) rfl rfl rfl ?_
    refine AO.yld _ (Yld.move rfl) rfl rfl rfl ?_
    refine AO.yld _ (Yld.len Try.underlying23 rfl rfl) rfl rfl rfl ?_
    refine AO.yld _ (Yld.int rfl rfl rfl) rfl rfl rfl ?_
    refine AO.nil ?_
    refine AC.cond _ rfl (fun c11 => ?_) (fun c11 => ?_)
    · -- c11 True
      have hk := lt_of_decM c11
      obtain ⟨x, hx⟩ := get_some hk
      have hrow := map_row (enc := encChg) hx
      refine AC.skip ?_
      refine AC.seq ?_
      refine AC.block ?_
      refine AC.region ?_
      refine AO.yld _ (Yld.move rfl) rfl rfl rfl ?_
      refine AO.yld _ (Yld.move rfl) rfl rfl rfl ?_
      refine AO.yld _ (Yld.move rfl) rfl rfl rfl ?_
      refine AO.yld _ (Yld.move rfl) rfl rfl rfl ?_
      refine AO.yld _ (Yld.indexSl Try.underlying23 Try.sizeOf59 rfl rfl hrow rfl) rfl rfl rfl ?_
      refine AO.yld _ (Yld.loadAgg Try.isAgg59 Try.sizeOf59 rfl rfl rfl rfl) rfl rfl rfl ?_
      refine AO.yld _ (Yld.call rfl rfl Try.call35 rfl rfl rfl (laws_toChange_c) rfl) rfl rfl rfl ?_
      refine AO.yld _ (Yld.indexVec Try.underlying30 Try.sizeOf64 rfl rfl rfl rfl (by rw [filled_length (by omega)]; exact hk)) rfl rfl rfl ?_
      refine AO.store Try.sizeOf64 rfl rfl rfl rfl rfl (store_el rfl (filled_get hk) rfl rfl) ?_
      refine AO.nil ?_
      refine AC.mark ?_
      refine AC.region ?_
      refine AO.yld _ (Yld.move rfl) rfl rfl rfl ?_
      refine AO.yld _ (Yld.add rfl rfl (by omega) (by omega)) rfl rfl rfl ?_
      refine AO.yld _ (Yld.assign rfl) rfl rfl rfl ?_
      refine AO.nil ?_
      refine AC.back ⟨k + 1, ?_, ?_, ⟨?_, trivial⟩, ⟨?_, trivial⟩, ⟨rfl, rfl, rfl, trivial⟩, trivial⟩
      · omega
      · omega
      · rfl
      · rw [← filled_set hx]; rfl
    · -- c11 False
      obtain rfl : k = xs.length := by have := ge_of_decM c11; omega
      refine AC.exit rfl ?_
      refine AC.seq ?_
      refine AC.region ?_
      refine AO.yld _ (Yld.move rfl) rfl rfl rfl ?_
      refine AO.yld _ (Yld.assign rfl) rfl rfl rfl ?_
      refine AO.nil ?_
      refine Mk.ret 0 Try.results9 (RVs.cons (RV.tmp rfl) RVs.nil) rfl rfl ?_
      exact filled_end

theorem laws_szChange_c {x : Chg} {left : Int} (h0 : 0 ≤ left) (h1 : left ≤ 1048576) (hs : x.set.name.length ≤ 9223372036854775807) :
    Pure Try.prog 29 [.agg (encChg x), .v (.int .i64 left)] (.v (.int .i64 (szOne x.set.name left))) := by
  refine Pure.intro Try.func29 rfl Try.ntmps29 rfl rfl (fun w => ?_)
  refine AC.seq ?_
  refine AC.region ?_
  refine AO.box 0 rfl rfl rfl rfl rfl ?_
  refine AO.yld _ (Yld.assign rfl) rfl rfl rfl ?_
  refine AO.nil ?_
  refine AC.seq ?_
  refine AC.region ?_
  refine AO.yld _ (Yld.fieldAddr Try.underlying59 rfl rfl Try.sizeOf56 rfl rfl rfl) rfl rfl rfl ?_
  refine AO.yld _ (Yld.loadAgg Try.isAgg56 Try.sizeOf56 rfl rfl rfl rfl) rfl rfl rfl ?_
  refine AO.yld _ (Yld.move rfl) rfl rfl rfl ?_
  refine AO.yld _ (Yld.call rfl rfl Try.call28 rfl rfl rfl (laws_szSetting_c (by omega) (by omega) (by first | assumption | omega)) rfl) rfl rfl rfl ?_
  refine AO.yld _ (Yld.assign rfl) rfl rfl rfl ?_
  refine AO.nil ?_
  refine AC.seq ?_
  refine AC.seq ?_
  refine AC.region ?_
  refine AO.yld _ (Yld.move rfl) rfl rfl rfl ?_
  refine AO.yld _ (Yld.int rfl rfl rfl) rfl rfl rfl ?_
  refine AO.nil ?_
  refine AC.cond _ rfl (fun c10 => ?_) (fun c10 => ?_)
  · -- c10 True
    refine AC.seq ?_
    refine AC.region ?_
    refine AO.yld _ (Yld.assign rfl) rfl rfl rfl ?_
    refine AO.nil ?_
    refine Pure.ret Try.results29 (RVs.cons (RV.tmp rfl) RVs.nil) rfl ?_
    first | rfl | (refine ci ?_; have h9 := szOne_lt c10; unfold szOne; rw [if_pos h9])
  · -- c10 False
    refine AC.skip ?_
    refine AC.seq ?_
    refine AC.region ?_
    refine AO.yld _ (Yld.move rfl) rfl rfl rfl ?_
    refine AO.yld _ (Yld.assign rfl) rfl rfl rfl ?_
    refine AO.nil ?_
    refine Pure.ret Try.results29 (RVs.cons (RV.tmp rfl) RVs.nil) rfl ?_
    first | rfl | (refine ci ?_; have h9 := szOne_lt c10; unfold szOne; rw [if_pos h9])

theorem laws_szChangeS_c {xs : List Chg} {left : Int} (h0 : 0 ≤ left) (h1 : left ≤ 1048576) (hn : xs.length ≤ 9223372036854775807) (hs : ∀ x ∈ xs, (x.set.name).length ≤ 9223372036854775807) :
    Pure Try.prog 6 [.sl 3 (xs.map encChg), .v (.int .i64 left)] (.v (.int .i64 (szAll (fun x : Chg => x.set.name) xs left))) := by
  refine Pure.intro Try.func6 rfl Try.ntmps6 rfl rfl (fun w => ?_)
  refine AC.seq ?_
  refine AC.region ?_
  refine AO.yld _ (Yld.assign rfl) rfl rfl rfl ?_
  refine AO.nil ?_
  refine AC.seq ?_
  refine AC.region ?_
  refine AO.yld _ (Yld.move rfl) rfl rfl rfl ?_
  refine AO.yld _ (Yld.move rfl) rfl rfl rfl ?_
  refine AO.yld _ (Yld.len Try.underlying23 rfl rfl) rfl rfl rfl ?_
  refine AO.yld _ (Yld.sub rfl rfl (by simp only [List.length_map]; omega) (by simp only [List.length_map]; omega)) rfl rfl rfl ?_
  refine AO.yld _ (Yld.assign rfl) rfl rfl rfl ?_
  refine AO.nil ?_
  refine AC.seq ?_
  refine AC.seq ?_
  refine AC.region ?_
  refine AO.yld _ (Yld.move rfl) rfl rfl rfl ?_
  refine AO.yld _ (Yld.int rfl rfl rfl) rfl rfl rfl ?_
  refine AO.nil ?_
  refine AC.cond _ rfl (fun c11 => ?_) (fun c11 => ?_)
  · -- c11 True
    refine AC.seq ?_
    refine AC.region ?_
    refine AO.yld _ (Yld.assign rfl) rfl rfl rfl ?_
    refine AO.nil ?_
    refine Pure.ret Try.results6 (RVs.cons (RV.tmp rfl) RVs.nil) rfl ?_
    first
      | (refine ci ?_; have h := c11; have hl := lens_nonneg (f := (fun x : Chg => x.set.name)) (xs := xs); simp only [List.length_map, decide_eq_true_eq] at h; unfold szAll; rw [if_pos (by omega)])
      | (refine ci ?_; have h := szOne_lt c25; unfold szAll; rw [if_pos (by omega)])
      | (refine ci ?_; rw [lensTo_all] at hJ ⊢; unfold szAll; rw [if_neg (by omega)])
  · -- c11 False
    refine AC.skip ?_
    refine AC.seq ?_
    refine AC.seq ?_
    refine AC.region ?_
    refine AO.yld _ (Yld.assign rfl) rfl rfl rfl ?_
    refine AO.nil ?_
    refine AC.block ?_
    refine AC.loopC [(0, _)] [] (fun (k : Nat) => [(5, .p (.v (.int .i64 (k : Int)))), (1, .p (.v (.int .i64 (left - xs.length - lensTo (fun x : Chg => x.set.name) xs k))))]) (fun (k : Nat) => []) (fun (k : Nat) => k ≤ xs.length ∧ 0 ≤ left - xs.length - lensTo (fun x : Chg => x.set.name) xs k) (fun (k : Nat) => xs.length - k) 0 ⟨rfl, trivial⟩ trivial ⟨rfl, by show some (AV.p (PV.v (Value.int IntKind.i64 _))) = _; simp only [List.length_map, lensTo_zero, Int.sub_zero], trivial⟩ trivial ?_ (fun k hJ => ?_)
    · refine ⟨Nat.zero_le _, ?_⟩; rw [lensTo_zero]; simp only [List.length_map, decide_eq_false_iff_not] at c11; omega
    · -- round
      refine AC.seq ?_
      refine AC.seq ?_
      refine AC.region ?_
      refine AO.yld _ (Yld.move rfl) rfl rfl rfl ?_
      refine AO.yld _ (Yld.move rfl) rfl rfl rfl ?_
      refine AO.yld _ (Yld.len Try.underlying23 rfl rfl) rfl rfl rfl ?_
      refine AO.yld _ (Yld.int rfl rfl rfl) rfl rfl rfl ?_
      refine AO.nil ?_
      refine AC.cond _ rfl (fun c15 => ?_) (fun c15 => ?_)
      · -- c15 True
        have hk := lt_of_decM c15
        obtain ⟨x, hx⟩ := get_some hk
        have hrow := map_row (enc := encChg) hx
        have hsx := hs x (List.mem_of_getElem? hx)
        have hle := lens_ge (f := (fun x : Chg => x.set.name)) (xs := xs) (k + 1)
        rw [lensTo_succ hx] at hle
        have hnn := lensTo_nonneg (f := (fun x : Chg => x.set.name)) (xs := xs) (k := k)
        refine AC.skip ?_
        refine AC.seq ?_
        refine AC.block ?_
        refine AC.seq ?_
        refine AC.region ?_
        refine AO.yld _ (Yld.move rfl) rfl rfl rfl ?_
        refine AO.yld _ (Yld.move rfl) rfl rfl rfl ?_
        refine AO.yld _ (Yld.indexSl Try.underlying23 Try.sizeOf59 rfl rfl hrow rfl) rfl rfl rfl ?_
        refine AO.yld _ (Yld.loadAgg Try.isAgg59 Try.sizeOf59 rfl rfl rfl rfl) rfl rfl rfl ?_
        refine AO.yld _ (Yld.move rfl) rfl rfl rfl ?_
        refine AO.yld _ (Yld.call rfl rfl Try.call29 rfl rfl rfl (laws_szChange_c (by omega) (by omega) (by first | assumption | omega)) rfl) rfl rfl rfl ?_
        refine AO.yld _ (Yld.assign rfl) rfl rfl rfl ?_
        refine AO.nil ?_
        refine AC.seq ?_
        refine AC.region ?_
        refine AO.yld _ (Yld.move rfl) rfl rfl rfl ?_
        refine AO.yld _ (Yld.int rfl rfl rfl) rfl rfl rfl ?_
        refine AO.nil ?_
        refine AC.cond _ rfl (fun c25 => ?_) (fun c25 => ?_)
        · -- c25 True
          refine AC.seq ?_
          refine AC.region ?_
          refine AO.yld _ (Yld.assign rfl) rfl rfl rfl ?_
          refine AO.nil ?_
          refine Pure.ret Try.results6 (RVs.cons (RV.tmp rfl) RVs.nil) rfl ?_
          first
            | (refine ci ?_; have h := c11; have hl := lens_nonneg (f := (fun x : Chg => x.set.name)) (xs := xs); simp only [List.length_map, decide_eq_true_eq] at h; unfold szAll; rw [if_pos (by omega)])
            | (refine ci ?_; have h := szOne_lt c25; unfold szAll; rw [if_pos (by omega)])
            | (refine ci ?_; rw [lensTo_all] at hJ ⊢; unfold szAll; rw [if_neg (by omega)])
        · -- c25 False
          refine AC.skip ?_
          refine AC.mark ?_
          refine AC.region ?_
          refine AO.yld _ (Yld.move rfl) rfl rfl rfl ?_
          refine AO.yld _ (Yld.add rfl rfl (by omega) (by omega)) rfl rfl rfl ?_
          refine AO.yld _ (Yld.assign rfl) rfl rfl rfl ?_
          refine AO.nil ?_
          refine AC.back ⟨k + 1, ?_, ?_, ⟨?_, ?_, trivial⟩, trivial, ⟨rfl, trivial⟩, trivial⟩
          · refine ⟨hk, ?_⟩; rw [lensTo_succ hx]; have h := szOne_ge c25; omega
          · omega
          · rfl
          · show some (AV.p (PV.v (Value.int IntKind.i64 _))) = _; rw [lensTo_succ hx, (szOne_ge c25).1]; congr 4; omega
      · -- c15 False
        obtain rfl : k = xs.length := by have := ge_of_decM c15; omega
        refine AC.exit rfl ?_
        refine AC.seq ?_
        refine AC.region ?_
        refine AO.yld _ (Yld.move rfl) rfl rfl rfl ?_
        refine AO.yld _ (Yld.assign rfl) rfl rfl rfl ?_
        refine AO.nil ?_
        refine Pure.ret Try.results6 (RVs.cons (RV.tmp rfl) RVs.nil) rfl ?_
        first
          | (refine ci ?_; have h := c11; have hl := lens_nonneg (f := (fun x : Chg => x.set.name)) (xs := xs); simp only [List.length_map, decide_eq_true_eq] at h; unfold szAll; rw [if_pos (by omega)])
          | (refine ci ?_; have h := szOne_lt c25; unfold szAll; rw [if_pos (by omega)])
          | (refine ci ?_; rw [lensTo_all] at hJ ⊢; unfold szAll; rw [if_neg (by omega)])

theorem spec_l27Change_c {c : Chg} (hs : c.set.name.length ≤ 1048576) :
    Pure Try.prog 31 [.ptr (encChg c)] (.v (.bool (okChg c))) := by
  refine Pure.intro Try.func31 rfl Try.ntmps31 rfl rfl (fun w => ?_)
  refine AC.seq ?_
  refine AC.region ?_
  refine AO.yld _ (Yld.assign rfl) rfl rfl rfl ?_
  refine AO.nil ?_
  refine AC.seq ?_
  refine AC.region ?_
  refine AO.yld _ (Yld.move rfl) rfl rfl rfl ?_
  refine AO.yld _ (Yld.nilCheck rfl rfl) rfl rfl rfl ?_
  refine AO.yld _ (Yld.fieldAddr Try.underlying64 rfl rfl Try.sizeOf2 rfl rfl rfl) rfl rfl rfl ?_
  refine AO.yld _ (Yld.load Try.isAgg2 rfl rfl) rfl rfl rfl ?_
  refine AO.yld _ (Yld.call rfl rfl Try.call63 rfl rfl rfl (spec_l00In_c) rfl) rfl rfl rfl ?_
  refine AO.yld _ (Yld.move rfl) rfl rfl rfl ?_
  refine AO.splitAt 8 _ rfl (fun s8 => ?_) (fun s8 => ?_)
  · -- s8 True
    refine AO.yldG _ (Yld.move rfl) rfl rfl rfl rfl rfl ?_
    refine AO.yldG _ (Yld.nilCheck rfl rfl) rfl rfl rfl rfl rfl ?_
    refine AO.yldG _ (Yld.fieldAddr Try.underlying64 rfl rfl Try.sizeOf62 rfl rfl rfl) rfl rfl rfl rfl rfl ?_
    refine AO.yldG _ (Yld.call rfl rfl Try.call62 rfl rfl rfl (spec_l27Setting_c (by first | assumption | omega)) rfl) rfl rfl rfl rfl rfl ?_
    refine AO.yld _ (Yld.pickT rfl rfl) rfl rfl rfl ?_
    refine AO.yld _ (Yld.assign rfl) rfl rfl rfl ?_
    refine AO.nil ?_
    refine Pure.ret Try.results31 (RVs.cons (RV.tmp rfl) RVs.nil) rfl ?_
    first | (simp_all [okChg]; done) | grind [okChg]
  · -- s8 False
    refine AO.skipT rfl rfl rfl rfl rfl ?_
    refine AO.skipT rfl rfl rfl rfl rfl ?_
    refine AO.skipT rfl rfl rfl rfl rfl ?_
    refine AO.skipT rfl rfl rfl rfl rfl ?_
    refine AO.yld _ (Yld.pickF rfl rfl) rfl rfl rfl ?_
    refine AO.yld _ (Yld.assign rfl) rfl rfl rfl ?_
    refine AO.nil ?_
    refine Pure.ret Try.results31 (RVs.cons (RV.tmp rfl) RVs.nil) rfl ?_
    first | (simp_all [okChg]; done) | grind [okChg]

theorem indexFuncChange_c {xs : List Chg} {f : FuncId} {caps : List PV} {p : Chg → Bool} (hn : xs.length ≤ 1048576) (hf : Enters Try.prog f) (hp : ∀ x ∈ xs, Pure Try.prog f (.agg (encChg x) :: caps) (.v (.bool (p x)))) :
    Pure Try.prog 64 [.sl 3 (xs.map encChg), .clo f caps] (.v (.int .i64 (idxOf p xs))) := by
  refine Pure.intro Try.func64 rfl Try.ntmps64 rfl rfl (fun w => ?_)
  refine AC.seq ?_
  refine AC.region ?_
  refine AO.yld _ (Yld.assign rfl) rfl rfl rfl ?_
  refine AO.nil ?_
  refine AC.seq ?_
  refine AC.seq ?_
  refine AC.region ?_
  refine AO.yld _ (Yld.move rfl) rfl rfl rfl ?_
  refine AO.yld _ (Yld.len Try.underlying30 rfl rfl) rfl rfl rfl ?_
  refine AO.yld _ (Yld.move rfl) rfl rfl rfl ?_
  refine AO.nil ?_
  refine AC.block ?_
  refine AC.loopC [(0, _), (1, _), (7, _)] [] (fun (k : Nat) => [(8, .p (.v (.int .i64 (k : Int))))]) (fun (k : Nat) => []) (fun (k : Nat) => k ≤ xs.length ∧ anyTo p xs k = false) (fun (k : Nat) => xs.length - k) 0 ⟨rfl, rfl, rfl, trivial⟩ trivial ⟨rfl, trivial⟩ trivial ?_ (fun k hJ => ?_)
  · exact ⟨Nat.zero_le _, rfl⟩
  · -- round
    refine AC.seq ?_
    refine AC.region ?_
    refine AO.yld _ (Yld.int rfl rfl rfl) rfl rfl rfl ?_
    refine AO.nil ?_
    refine AC.seq ?_
    refine AC.cond _ rfl (fun c9 => ?_) (fun c9 => ?_)
    · -- c9 True
      have hk := lt_of_decM c9
      obtain ⟨x, hx⟩ := get_some hk
      have hrow := map_row (enc := encChg) hx
      refine AC.skip ?_
      refine AC.seq ?_
      refine AC.block ?_
      refine AC.seq ?_
      refine AC.region ?_
      refine AO.yld _ (Yld.move rfl) rfl rfl rfl ?_
      refine AO.yld _ (Yld.assign rfl) rfl rfl rfl ?_
      refine AO.nil ?_
      refine AC.seq ?_
      refine AC.region ?_
      refine AO.yld _ (Yld.move rfl) rfl rfl rfl ?_
      refine AO.yld _ (Yld.move rfl) rfl rfl rfl ?_
      refine AO.yld _ (Yld.move rfl) rfl rfl rfl ?_
      refine AO.yld _ (Yld.indexSl Try.underlying30 Try.sizeOf64 rfl rfl hrow rfl) rfl rfl rfl ?_
      refine AO.yld _ (Yld.loadAgg Try.isAgg64 Try.sizeOf64 rfl rfl rfl rfl) rfl rfl rfl ?_
      refine AO.yld _ (Yld.call rfl rfl hf rfl rfl (viewL_p _) (hp x (List.mem_of_getElem? hx)) rfl) rfl rfl rfl ?_
      refine AO.nil ?_
      refine AC.cond _ rfl (fun c16 => ?_) (fun c16 => ?_)
      · -- c16 True
        refine AC.seq ?_
        refine AC.region ?_
        refine AO.yld _ (Yld.move rfl) rfl rfl rfl ?_
        refine AO.yld _ (Yld.assign rfl) rfl rfl rfl ?_
        refine AO.nil ?_
        refine Pure.ret Try.results64 (RVs.cons (RV.tmp rfl) RVs.nil) rfl ?_
        first
          | exact ci (idx_hit hJ.2 hx (by simpa using c16))
          | exact ci (idx_miss hJ.2)
      · -- c16 False
        refine AC.skip ?_
        refine AC.mark ?_
        refine AC.region ?_
        refine AO.yld _ (Yld.add rfl rfl (by omega) (by omega)) rfl rfl rfl ?_
        refine AO.yld _ (Yld.move rfl) rfl rfl rfl ?_
        refine AO.nil ?_
        refine AC.back ⟨k + 1, ?_, ?_, ⟨?_, trivial⟩, trivial, ⟨rfl, rfl, rfl, trivial⟩, trivial⟩
        · exact ⟨hk, by rw [anyTo_succ hx, hJ.2]; simpa using c16⟩
        · omega
        · rfl
    · -- c9 False
      obtain rfl : k = xs.length := by have := ge_of_decM c9; omega
      refine AC.exit rfl ?_
      refine AC.seq ?_
      refine AC.region ?_
      refine AO.yld _ (Yld.assign rfl) rfl rfl rfl ?_
      refine AO.nil ?_
      refine Pure.ret Try.results64 (RVs.cons (RV.tmp rfl) RVs.nil) rfl ?_
      first
        | exact ci (idx_hit hJ.2 hx (by simpa using c16))
        | exact ci (idx_miss hJ.2)

theorem containsFuncChange_c {xs : List Chg} {f : FuncId} {caps : List PV} {p : Chg → Bool} (hn : xs.length ≤ 1048576) (hf : Enters Try.prog f) (hp : ∀ x ∈ xs, Pure Try.prog f (.agg (encChg x) :: caps) (.v (.bool (p x)))) :
    Pure Try.prog 37 [.sl 3 (xs.map encChg), .clo f caps] (.v (.bool (xs.any p))) := by
  refine Pure.intro Try.func37 rfl Try.ntmps37 rfl rfl (fun w => ?_)
  refine AC.seq ?_
  refine AC.region ?_
  refine AO.yld _ (Yld.assign rfl) rfl rfl rfl ?_
  refine AO.nil ?_
  refine AC.seq ?_
  refine AC.region ?_
  refine AO.yld _ (Yld.move rfl) rfl rfl rfl ?_
  refine AO.yld _ (Yld.move rfl) rfl rfl rfl ?_
  refine AO.yld _ (Yld.call rfl rfl Try.call64 rfl rfl rfl (indexFuncChange_c (by first | assumption | omega) hf hp) rfl) rfl rfl rfl ?_
  refine AO.yld _ (Yld.int rfl rfl rfl) rfl rfl rfl ?_
  refine AO.yld _ (Yld.assign rfl) rfl rfl rfl ?_
  refine AO.nil ?_
  refine Pure.ret Try.results37 (RVs.cons (RV.tmp rfl) RVs.nil) rfl ?_
  exact cb idx_any.symm

theorem applyChanges1_c {c : Chg} (hs : c.set.name.length ≤ 1048576) :
    Pure Try.prog 38 [.agg (encChg c)] (.v (.bool (!okChg c))) := by
  refine Pure.intro Try.func38 rfl Try.ntmps38 rfl rfl (fun w => ?_)
  refine AC.seq ?_
  refine AC.region ?_
  refine AO.box 0 rfl rfl rfl rfl rfl ?_
  refine AO.yld _ (Yld.assign rfl) rfl rfl rfl ?_
  refine AO.nil ?_
  refine AC.seq ?_
  refine AC.region ?_
  refine AO.yld _ (Yld.fieldAddr Try.underlying64 rfl rfl Try.sizeOf2 rfl rfl rfl) rfl rfl rfl ?_
  refine AO.yld _ (Yld.load Try.isAgg2 rfl rfl) rfl rfl rfl ?_
  refine AO.yld _ (Yld.int rfl rfl rfl) rfl rfl rfl ?_
  refine AO.yld _ (Yld.move rfl) rfl rfl rfl ?_
  refine AO.splitAt 6 _ rfl (fun s6 => ?_) (fun s6 => ?_)
  · -- s6 True
    refine AO.yldG _ (Yld.fieldAddr Try.underlying64 rfl rfl Try.sizeOf2 rfl rfl rfl) rfl rfl rfl rfl rfl ?_
    refine AO.yldG _ (Yld.load Try.isAgg2 rfl rfl) rfl rfl rfl rfl rfl ?_
    refine AO.yldG _ (Yld.int rfl rfl rfl) rfl rfl rfl rfl rfl ?_
    refine AO.yld _ (Yld.pickT rfl rfl) rfl rfl rfl ?_
    refine AO.yld _ (Yld.move rfl) rfl rfl rfl ?_
    refine AO.splitAt 11 _ rfl (fun s11 => ?_) (fun s11 => ?_)
    · -- s11 True
      refine AO.skipF rfl rfl rfl rfl rfl ?_
      refine AO.skipF rfl rfl rfl rfl rfl ?_
      refine AO.skipF rfl rfl rfl rfl rfl ?_
      refine AO.skipF rfl rfl rfl rfl rfl ?_
      refine AO.yld _ (Yld.pickT rfl rfl) rfl rfl rfl ?_
      refine AO.yld _ (Yld.assign rfl) rfl rfl rfl ?_
      refine AO.nil ?_
      refine Pure.ret Try.results38 (RVs.cons (RV.tmp rfl) RVs.nil) rfl ?_
      first | (simp_all [okChg]; done) | (simp_all [okChg]; omega) | grind [okChg]
    · -- s11 False
      refine AO.yldG _ (Yld.fieldAddr Try.underlying64 rfl rfl Try.sizeOf62 rfl rfl rfl) rfl rfl rfl rfl rfl ?_
      refine AO.yldG _ (Yld.loadAgg Try.isAgg62 Try.sizeOf62 rfl rfl rfl rfl) rfl rfl rfl rfl rfl ?_
      refine AO.yldG _ (Yld.call rfl rfl Try.call39 rfl rfl rfl (impl_validSetting_c (by first | assumption | omega)) rfl) rfl rfl rfl rfl rfl ?_
      refine AO.yldG _ (Yld.not rfl) rfl rfl rfl rfl rfl ?_
      refine AO.yld _ (Yld.pickF rfl rfl) rfl rfl rfl ?_
      refine AO.yld _ (Yld.assign rfl) rfl rfl rfl ?_
      refine AO.nil ?_
      refine Pure.ret Try.results38 (RVs.cons (RV.tmp rfl) RVs.nil) rfl ?_
      first | (simp_all [okChg]; done) | (simp_all [okChg]; omega) | grind [okChg]
  · -- s6 False
    refine AO.skipT rfl rfl rfl rfl rfl ?_
    refine AO.skipT rfl rfl rfl rfl rfl ?_
    refine AO.skipT rfl rfl rfl rfl rfl ?_
    refine AO.yld _ (Yld.pickF rfl rfl) rfl rfl rfl ?_
    refine AO.yld _ (Yld.move rfl) rfl rfl rfl ?_
    refine AO.yldG _ (Yld.fieldAddr Try.underlying64 rfl rfl Try.sizeOf62 rfl rfl rfl) rfl rfl rfl rfl rfl ?_
    refine AO.yldG _ (Yld.loadAgg Try.isAgg62 Try.sizeOf62 rfl rfl rfl rfl) rfl rfl rfl rfl rfl ?_
    refine AO.yldG _ (Yld.call rfl rfl Try.call39 rfl rfl rfl (impl_validSetting_c (by first | assumption | omega)) rfl) rfl rfl rfl rfl rfl ?_
    refine AO.yldG _ (Yld.not rfl) rfl rfl rfl rfl rfl ?_
    refine AO.yld _ (Yld.pickF rfl rfl) rfl rfl rfl ?_
    refine AO.yld _ (Yld.assign rfl) rfl rfl rfl ?_
    refine AO.nil ?_
    refine Pure.ret Try.results38 (RVs.cons (RV.tmp rfl) RVs.nil) rfl ?_
    first | (simp_all [okChg]; done) | (simp_all [okChg]; omega) | grind [okChg]

set_option maxHeartbeats 4000000 in
theorem spec_ApplyChanges_c {xs : List NV} {cs : List Chg} (hn : xs.length ≤ 1048576) (hs : ∀ x ∈ xs, x.name.length ≤ 1048576) (hm : cs.length ≤ 1048576) (hcs : ∀ c ∈ cs, c.set.name.length ≤ 1048576) :
    FnE (α := Unit) Try.prog 7 [.p (.sl 2 (xs.map encNV)), .p (.sl 3 (cs.map encChg))] [] [] (fun _ => True) (fun _ => .tup [.h 0, .p (.v (.int .i64 (applyC xs cs).2))]) (fun _ => [(0, .vec 62 2 ((applyC xs cs).1.map encNV))]) := by
  have hC : (cs.map encChg).length = cs.length := List.length_map ..
  refine FnE.intro Try.func7 rfl Try.ntmps7 rfl rfl (fun w0 F0 η φ w => ?_)
  refine AC.seq ?_
  refine AC.region ?_
  refine AO.yld _ (Yld.assign rfl) rfl rfl rfl ?_
  refine AO.yld _ (Yld.assign rfl) rfl rfl rfl ?_
  refine AO.nil ?_
  refine AC.seq ?_
  refine AC.seq ?_
  refine AC.region ?_
  refine AO.yld _ (Yld.move rfl) rfl rfl rfl ?_
  refine AO.yld _ (Yld.call rfl rfl Try.call30 rfl rfl rfl (spec_l27State_c hn hs) rfl) rfl rfl rfl ?_
  refine AO.yld _ (Yld.not rfl) rfl rfl rfl ?_
  refine AO.nil ?_
  refine AC.cond _ rfl (fun c14 => ?_) (fun c14 => ?_)
  · -- c14 True
    have hok : ¬ okState xs = true := by simpa using c14
    have hres : applyC xs cs = ([], 1) := if_neg (fun h => hok h.1)
    refine AC.seq ?_
    refine AC.region ?_
    refine AO.yld _ (Yld.assign rfl) rfl rfl rfl ?_
    refine AO.yld _ (Yld.assign rfl) rfl rfl rfl ?_
    refine AO.nil ?_
    refine AC.nilVec 4 0 62 2 rfl rfl ?_
    refine FnE.ret () [0] [0] Try.results7 (RVs.cons (RV.tmp rfl) (RVs.cons (RV.tmp rfl) RVs.nil)) rfl rfl rfl ?_ ?_ ⟨⟨_, rfl, ?_⟩, trivial⟩
    · -- holds
      trivial
    · -- value
      first | (rw [hres]; rfl) | (rw [hres])
    · -- thing 0
      first | (rw [hres]; rfl) | (rw [hres])
  · -- c14 False
    have hok : okState xs = true := by simpa using c14
    refine AC.skip ?_
    refine AC.seq ?_
    refine AC.seq ?_
    refine AC.region ?_
    refine AO.yld _ (Yld.assign rfl) rfl rfl rfl ?_
    refine AO.nil ?_
    refine AC.block ?_
    refine AC.loopC [(0, _), (1, _)] [(900, _)] (fun (k : Nat) => [(6, .p (.v (.int .i64 (k : Int))))]) (fun (k : Nat) => []) (fun (k : Nat) => k ≤ cs.length ∧ (cs.take k).all okChg = true) (fun (k : Nat) => cs.length - k) 0 ⟨rfl, rfl, trivial⟩ ⟨rfl, trivial⟩ ⟨rfl, trivial⟩ trivial ?_ (fun k hJ => ?_)
    · exact ⟨Nat.zero_le _, rfl⟩
    · -- round
      refine AC.seq ?_
      refine AC.seq ?_
      refine AC.region ?_
      refine AO.yld _ (Yld.move rfl) rfl rfl rfl ?_
      refine AO.yld _ (Yld.move rfl) rfl rfl rfl ?_
      refine AO.yld _ (Yld.len Try.underlying30 rfl rfl) rfl rfl rfl ?_
      refine AO.yld _ (Yld.int rfl rfl rfl) rfl rfl rfl ?_
      refine AO.nil ?_
      refine AC.cond _ rfl (fun c18 => ?_) (fun c18 => ?_)
      · -- c18 True
        have hk : k < cs.length := by have h := c18; rw [hC] at h; simpa using h
        obtain ⟨c, hc⟩ := get_some hk
        have hrow := map_row (enc := encChg) hc
        have hcn := hcs c (List.mem_of_getElem? hc)
        refine AC.skip ?_
        refine AC.seq ?_
        refine AC.block ?_
        refine AC.seq ?_
        refine AC.region ?_
        refine AO.yld _ (Yld.move rfl) rfl rfl rfl ?_
        refine AO.yld _ (Yld.move rfl) rfl rfl rfl ?_
        refine AO.yld _ (Yld.indexSl Try.underlying30 Try.sizeOf64 rfl rfl hrow rfl) rfl rfl rfl ?_
        refine AO.yld _ (Yld.call rfl rfl Try.call31 rfl rfl rfl (spec_l27Change_c hcn) rfl) rfl rfl rfl ?_
        refine AO.yld _ (Yld.not rfl) rfl rfl rfl ?_
        refine AO.nil ?_
        refine AC.cond _ rfl (fun c25 => ?_) (fun c25 => ?_)
        · -- c25 True
          have hres : applyC xs cs = ([], 1) := if_neg (fun h => by have h8 := List.all_eq_true.1 h.2 c (List.mem_of_getElem? hc); rw [h8] at c25; cases c25)
          refine AC.seq ?_
          refine AC.region ?_
          refine AO.yld _ (Yld.assign rfl) rfl rfl rfl ?_
          refine AO.yld _ (Yld.assign rfl) rfl rfl rfl ?_
          refine AO.nil ?_
          refine AC.nilVec 4 0 62 2 rfl rfl ?_
          refine FnE.ret () [0] [0] Try.results7 (RVs.cons (RV.tmp rfl) (RVs.cons (RV.tmp rfl) RVs.nil)) rfl rfl rfl ?_ ?_ ⟨⟨_, rfl, ?_⟩, trivial⟩
          · -- holds
            trivial
          · -- value
            first | (rw [hres]; rfl) | (rw [hres])
          · -- thing 0
            first | (rw [hres]; rfl) | (rw [hres])
        · -- c25 False
          refine AC.skip ?_
          refine AC.mark ?_
          refine AC.region ?_
          refine AO.yld _ (Yld.move rfl) rfl rfl rfl ?_
          refine AO.yld _ (Yld.add rfl rfl (by omega) (by omega)) rfl rfl rfl ?_
          refine AO.yld _ (Yld.assign rfl) rfl rfl rfl ?_
          refine AO.nil ?_
          refine AC.back ⟨k + 1, ?_, ?_, ⟨?_, trivial⟩, trivial, ⟨rfl, rfl, trivial⟩, ⟨rfl, trivial⟩⟩
          · exact ⟨hk, by rw [take_snoc hc, List.all_append, hJ.2]; simpa using c25⟩
          · omega
          · rfl
      · -- c18 False
        obtain rfl : k = cs.length := by have h := c18; rw [hC] at h; simp at h; omega
        have hall : cs.all okChg = true := by have h9 := hJ.2; rwa [List.take_length] at h9
        have hap : applyC xs cs = applyA cs xs := if_pos ⟨hok, hall⟩
        refine AC.exit rfl ?_
        refine AC.seq ?_
        refine AC.region ?_
        refine AO.buildSlice (rows := []) 0 Try.underlying26 ty62 rfl rfl rfl rfl rfl rfl rfl rfl rfl ?_
        refine AO.yld _ (Yld.move rfl) rfl rfl rfl ?_
        refine AO.append 0 Try.underlying26 ty62 rfl rfl rfl rfl rfl rfl rfl (by intro r hr q hq; first | (obtain ⟨x, _, rfl⟩ := List.mem_map.1 (List.mem_of_mem_take (List.mem_of_mem_drop hr)); simp only [encNV, List.mem_cons, List.not_mem_nil, or_false] at hq; rcases hq with rfl | rfl <;> rfl) | (obtain ⟨x, _, rfl⟩ := List.mem_map.1 hr; simp only [encNV, List.mem_cons, List.not_mem_nil, or_false] at hq; rcases hq with rfl | rfl <;> rfl)) (by simp only [List.length_map, List.length_cons, List.length_nil, List.length_append, List.length_take, List.length_drop]; omega) (by simp only [List.length_map, List.length_cons, List.length_nil, List.length_append, List.length_take, List.length_drop]; omega) rfl ?_
        refine AO.yld _ (Yld.assign rfl) rfl rfl rfl ?_
        refine AO.nil ?_
        refine AC.seq ?_
        refine AC.seq ?_
        refine AC.region ?_
        refine AO.yld _ (Yld.assign rfl) rfl rfl rfl ?_
        refine AO.nil ?_
        refine AC.block ?_
        refine AC.loopC2 [(1, _)] [(900, _)] (fun (k : Nat) (ms : List NV) => [(8, .p (.v (.int .i64 (k : Int)))), (7, .h 0)]) (fun (k : Nat) (ms : List NV) => [(0, .vec 62 2 (ms.map encNV))]) (fun (k : Nat) (ms : List NV) => AJ xs cs k ms) (fun (k : Nat) (ms : List NV) => cs.length - k) 0 xs ⟨rfl, trivial⟩ ⟨rfl, trivial⟩ ⟨rfl, rfl, trivial⟩ ⟨rfl, trivial⟩ ?_ (fun k ms hJ => ?_)
        · exact AJ.start hok hs
        · -- round
          have hJl := hJ.le
          have hJn := hJ.len
          refine AC.seq ?_
          refine AC.seq ?_
          refine AC.region ?_
          refine AO.yld _ (Yld.move rfl) rfl rfl rfl ?_
          refine AO.yld _ (Yld.move rfl) rfl rfl rfl ?_
          refine AO.yld _ (Yld.len Try.underlying30 rfl rfl) rfl rfl rfl ?_
          refine AO.yld _ (Yld.int rfl rfl rfl) rfl rfl rfl ?_
          refine AO.nil ?_
          refine AC.cond _ rfl (fun c32 => ?_) (fun c32 => ?_)
          · -- c32 True
            have hk : k < cs.length := by have h := c32; rw [hC] at h; simpa using h
            obtain ⟨c, hc⟩ := get_some hk
            have hrow := map_row (enc := encChg) hc
            have hcn := hcs c (List.mem_of_getElem? hc)
            refine AC.skip ?_
            refine AC.seq ?_
            refine AC.block ?_
            refine AC.seq ?_
            refine AC.region ?_
            refine AO.yld _ (Yld.move rfl) rfl rfl rfl ?_
            refine AO.yld _ (Yld.move rfl) rfl rfl rfl ?_
            refine AO.yld _ (Yld.indexSl Try.underlying30 Try.sizeOf64 rfl rfl hrow rfl) rfl rfl rfl ?_
            refine AO.yld _ (Yld.fieldAddr Try.underlying64 rfl rfl Try.sizeOf62 rfl rfl rfl) rfl rfl rfl ?_
            refine AO.yld _ (Yld.loadAgg Try.isAgg62 Try.sizeOf62 rfl rfl rfl rfl) rfl rfl rfl ?_
            refine AO.alloc 1 Try.zeroValue62 rfl rfl rfl ?_
            refine AO.store Try.sizeOf62 rfl rfl rfl rfl rfl rfl ?_
            refine AO.nil ?_
            refine AC.seq ?_
            refine AC.seq ?_
            refine AC.region ?_
            refine AO.yld _ (Yld.move rfl) rfl rfl rfl ?_
            refine AO.yld _ (Yld.move rfl) rfl rfl rfl ?_
            refine AO.yld _ (Yld.indexSl Try.underlying30 Try.sizeOf64 rfl rfl hrow rfl) rfl rfl rfl ?_
            refine AO.yld _ (Yld.fieldAddr Try.underlying64 rfl rfl Try.sizeOf2 rfl rfl rfl) rfl rfl rfl ?_
            refine AO.yld _ (Yld.load Try.isAgg2 rfl rfl) rfl rfl rfl ?_
            refine AO.yld _ (Yld.int rfl rfl rfl) rfl rfl rfl ?_
            refine AO.nil ?_
            refine AC.cond _ rfl (fun c45 => ?_) (fun c45 => ?_)
            · -- c45 True
              have hk1 : c.kind = 1 := by simpa using c45
              refine AC.seq ?_
              refine AC.region ?_
              refine AO.yld _ (Yld.move rfl) rfl rfl rfl ?_
              refine AO.yld _ (Yld.loadAgg Try.isAgg62 Try.sizeOf62 rfl rfl rfl rfl) rfl rfl rfl ?_
              refine AO.freeze 0 rfl ?_
              refine AO.callW (wantedN rfl) [0] [] [0] rfl rfl Try.call32 rfl (spec_l27Set_c (xs := ms) (e := c.set) hJ.rise (by omega)) (.flat (.view rfl rfl (.own rfl .nil)) (fun _ => by simp [AV.Flat, AV.FlatL, PV.Flat, PV.FlatL]) (fun _ => ⟨flat_map flatNV _, trivial⟩)) rfl (fun _ => rfl) trivial rfl (fun _ => rfl) (fun _ => rfl) (fun _ _ => ?_)
              refine AO.yld _ (Yld.assign rfl) rfl rfl rfl ?_
              refine AO.nil ?_
              refine AC.seq ?_
              refine AC.seq ?_
              refine AC.region ?_
              refine AO.yld _ (Yld.move rfl) rfl rfl rfl ?_
              refine AO.yld _ (Yld.len Try.underlying26 rfl rfl) rfl rfl rfl ?_
              refine AO.yld _ (Yld.int rfl rfl rfl) rfl rfl rfl ?_
              refine AO.nil ?_
              refine AC.cond _ rfl (fun c51 => ?_) (fun c51 => ?_)
              · -- c51 True
                have hres : applyC xs cs = ([], 5) := hap.trans (hJ.full hc hk1 (by have h := c51; rw [List.length_map] at h; simp only [decide_eq_true_eq] at h; omega))
                refine AC.seq ?_
                refine AC.region ?_
                refine AO.yld _ (Yld.assign rfl) rfl rfl rfl ?_
                refine AO.yld _ (Yld.assign rfl) rfl rfl rfl ?_
                refine AO.nil ?_
                refine AC.nilVec 4 2 62 2 rfl rfl ?_
                refine FnE.ret () [2] [0] Try.results7 (RVs.cons (RV.tmp rfl) (RVs.cons (RV.tmp rfl) RVs.nil)) rfl rfl rfl ?_ ?_ ⟨⟨_, rfl, ?_⟩, trivial⟩
                · -- holds
                  trivial
                · -- value
                  first | (rw [hres]; rfl) | (rw [hres])
                · -- thing 0
                  first | (rw [hres]; rfl) | (rw [hres])
              · -- c51 False
                refine AC.skip ?_
                refine AC.exit rfl ?_
                refine AC.region ?_
                refine AO.yld _ (Yld.move rfl) rfl rfl rfl ?_
                refine AO.yld _ (Yld.add rfl rfl (by omega) (by omega)) rfl rfl rfl ?_
                refine AO.yld _ (Yld.assign rfl) rfl rfl rfl ?_
                refine AO.nil ?_
                refine AC.back ⟨k + 1, setL ms c.set, ?_, ?_, ⟨?_, ?_, trivial⟩, ⟨?_, trivial⟩, ⟨rfl, trivial⟩, ⟨rfl, trivial⟩⟩
                · exact hJ.set hc hk1 (by have h := c51; rw [List.length_map] at h; simp only [decide_eq_false_iff_not] at h; omega) hcn
                · omega
                · rfl
                · rfl
                · rfl
            · -- c45 False
              have hk1 : ¬ c.kind = 1 := by simpa using c45
              refine AC.skip ?_
              refine AC.seq ?_
              refine AC.region ?_
              refine AO.yld _ (Yld.move rfl) rfl rfl rfl ?_
              refine AO.yld _ (Yld.fieldAddr Try.underlying62 rfl rfl Try.sizeOf9 rfl rfl rfl) rfl rfl rfl ?_
              refine AO.yld _ (Yld.load Try.isAgg9 rfl rfl) rfl rfl rfl ?_
              refine AO.yld _ (Yld.call rfl rfl Try.call33 rfl rfl rfl (spec_l27At_c (by omega)) rfl) rfl rfl rfl ?_
              refine AO.yld _ (Yld.assign rfl) rfl rfl rfl ?_
              refine AO.nil ?_
              refine AC.seq ?_
              refine AC.seq ?_
              refine AC.region ?_
              refine AO.yld _ (Yld.move rfl) rfl rfl rfl ?_
              refine AO.yld _ (Yld.int rfl rfl rfl) rfl rfl rfl ?_
              refine AO.nil ?_
              refine AC.cond _ rfl (fun c57 => ?_) (fun c57 => ?_)
              · -- c57 True
                have hres : applyC xs cs = ([], 3) := hap.trans (hJ.miss hc hk1 (by simpa using c57))
                refine AC.seq ?_
                refine AC.region ?_
                refine AO.yld _ (Yld.assign rfl) rfl rfl rfl ?_
                refine AO.yld _ (Yld.assign rfl) rfl rfl rfl ?_
                refine AO.nil ?_
                refine AC.nilVec 4 2 62 2 rfl rfl ?_
                refine FnE.ret () [2] [0] Try.results7 (RVs.cons (RV.tmp rfl) (RVs.cons (RV.tmp rfl) RVs.nil)) rfl rfl rfl ?_ ?_ ⟨⟨_, rfl, ?_⟩, trivial⟩
                · -- holds
                  trivial
                · -- value
                  first | (rw [hres]; rfl) | (rw [hres])
                · -- thing 0
                  first | (rw [hres]; rfl) | (rw [hres])
              · -- c57 False
                have hi0 : 0 ≤ idxOf (nameIs c.set.name) ms := by simpa using c57
                obtain ⟨an, y, han, hy, hyn⟩ := idx_at9 hi0
                have hal := lt_of_get hy
                have hrowY := map_row (enc := encNV) hy
                refine AC.skip ?_
                refine AC.seq ?_
                refine AC.seq ?_
                refine AC.draw (by kernel_rfl) (by kernel_rfl) ?_
                refine AO.yld _ (Yld.move rfl) rfl rfl rfl ?_
                refine AO.yld _ (Yld.move rfl) rfl rfl rfl ?_
                refine AO.yld _ (Yld.indexVec Try.underlying26 Try.sizeOf62 rfl rfl rfl (show _ = ((an : Nat) : Int) from han) (by rw [List.length_map]; exact hal)) rfl rfl rfl ?_
                refine AO.yld _ (Yld.loadAgg Try.isAgg62 Try.sizeOf62 rfl (behind_el rfl hrowY) rfl rfl) rfl rfl rfl ?_
                refine AO.yld _ (Yld.loadAgg Try.isAgg62 Try.sizeOf62 rfl rfl rfl rfl) rfl rfl rfl ?_
                refine AO.yld _ (Yld.binV rfl rfl rfl rfl rfl rfl (by exact neSetting)) rfl rfl rfl ?_
                refine AO.nil ?_
                refine AC.cond _ rfl (fun c63 => ?_) (fun c63 => ?_)
                · -- c63 True
                  have hye : ¬ y = c.set := by simpa using c63
                  have hres : applyC xs cs = ([], 6) := hap.trans (hJ.other hc hk1 han hy hye)
                  refine AC.seq ?_
                  refine AC.region ?_
                  refine AO.yld _ (Yld.assign rfl) rfl rfl rfl ?_
                  refine AO.yld _ (Yld.assign rfl) rfl rfl rfl ?_
                  refine AO.nil ?_
                  refine AC.nilVec 4 2 62 2 rfl rfl ?_
                  refine FnE.ret () [2] [0] Try.results7 (RVs.cons (RV.tmp rfl) (RVs.cons (RV.tmp rfl) RVs.nil)) rfl rfl rfl ?_ ?_ ⟨⟨_, rfl, ?_⟩, trivial⟩
                  · -- holds
                    trivial
                  · -- value
                    first | (rw [hres]; rfl) | (rw [hres])
                  · -- thing 0
                    first | (rw [hres]; rfl) | (rw [hres])
                · -- c63 False
                  have hye : y = c.set := by simpa using c63
                  refine AC.skip ?_
                  refine AC.seq ?_
                  refine AC.region ?_
                  refine AO.freeze 0 rfl ?_
                  refine AO.buildSlice (rows := []) 0 Try.underlying26 ty62 rfl rfl rfl rfl rfl rfl rfl rfl rfl ?_
                  refine AO.yld _ (Yld.move rfl) rfl rfl rfl ?_
                  refine AO.yld _ (Yld.move rfl) rfl rfl rfl ?_
                  refine AO.yld _ (Yld.sliceSl Try.underlying26 Try.sizeOf62 rfl .none (.some (n := an) rfl (by omega)) (by omega) (by rw [List.length_map]; omega)) rfl rfl rfl ?_
                  refine AO.append 0 Try.underlying26 ty62 rfl rfl rfl rfl rfl rfl rfl (by intro r hr q hq; first | (obtain ⟨x, _, rfl⟩ := List.mem_map.1 (List.mem_of_mem_take (List.mem_of_mem_drop hr)); simp only [encNV, List.mem_cons, List.not_mem_nil, or_false] at hq; rcases hq with rfl | rfl <;> rfl) | (obtain ⟨x, _, rfl⟩ := List.mem_map.1 hr; simp only [encNV, List.mem_cons, List.not_mem_nil, or_false] at hq; rcases hq with rfl | rfl <;> rfl)) (by simp only [List.length_map, List.length_cons, List.length_nil, List.length_append, List.length_take, List.length_drop]; omega) (by simp only [List.length_map, List.length_cons, List.length_nil, List.length_append, List.length_take, List.length_drop]; omega) rfl ?_
                  refine AO.yld _ (Yld.assign rfl) rfl rfl rfl ?_
                  refine AO.nil ?_
                  refine AC.region ?_
                  refine AO.yld _ (Yld.move rfl) rfl rfl rfl ?_
                  refine AO.yld _ (Yld.move rfl) rfl rfl rfl ?_
                  refine AO.yld _ (Yld.move rfl) rfl rfl rfl ?_
                  refine AO.yld _ (Yld.add rfl rfl (by omega) (by omega)) rfl rfl rfl ?_
                  refine AO.yld _ (Yld.sliceSl Try.underlying26 Try.sizeOf62 rfl (.some (n := an + 1) rfl (by omega)) .none (by rw [List.length_map]; omega) (Nat.le_refl _)) rfl rfl rfl ?_
                  refine AO.append 0 Try.underlying26 ty62 rfl rfl rfl rfl rfl rfl rfl (by intro r hr q hq; first | (obtain ⟨x, _, rfl⟩ := List.mem_map.1 (List.mem_of_mem_take (List.mem_of_mem_drop hr)); simp only [encNV, List.mem_cons, List.not_mem_nil, or_false] at hq; rcases hq with rfl | rfl <;> rfl) | (obtain ⟨x, _, rfl⟩ := List.mem_map.1 hr; simp only [encNV, List.mem_cons, List.not_mem_nil, or_false] at hq; rcases hq with rfl | rfl <;> rfl)) (by simp only [List.length_map, List.length_cons, List.length_nil, List.length_append, List.length_take, List.length_drop]; omega) (by simp only [List.length_map, List.length_cons, List.length_nil, List.length_append, List.length_take, List.length_drop]; omega) rfl ?_
                  refine AO.yld _ (Yld.assign rfl) rfl rfl rfl ?_
                  refine AO.nil ?_
                  refine AC.mark ?_
                  refine AC.region ?_
                  refine AO.yld _ (Yld.move rfl) rfl rfl rfl ?_
                  refine AO.yld _ (Yld.add rfl rfl (by omega) (by omega)) rfl rfl rfl ?_
                  refine AO.yld _ (Yld.assign rfl) rfl rfl rfl ?_
                  refine AO.nil ?_
                  refine AC.back ⟨k + 1, ms.eraseIdx an, ?_, ?_, ⟨?_, ?_, trivial⟩, ⟨?_, trivial⟩, ⟨rfl, trivial⟩, ⟨rfl, trivial⟩⟩
                  · exact hJ.del hc hk1 han hy hye
                  · omega
                  · rfl
                  · rfl
                  · refine congrArg some (vecE ?_); rw [← map_erase9, List.eraseIdx_eq_take_drop_succ]; try rw [List.take_length]
                    try simp
          · -- c32 False
            obtain rfl : k = cs.length := by have h := c32; rw [hC] at h; simp at h; omega
            have hres : applyC xs cs = (ms, 0) := hap.trans hJ.fin
            refine AC.exit rfl ?_
            refine AC.seq ?_
            refine AC.region ?_
            refine AO.yld _ (Yld.move rfl) rfl rfl rfl ?_
            refine AO.yld _ (Yld.assign rfl) rfl rfl rfl ?_
            refine AO.yld _ (Yld.assign rfl) rfl rfl rfl ?_
            refine AO.nil ?_
            refine FnE.ret () [0] [0] Try.results7 (RVs.cons (RV.tmp rfl) (RVs.cons (RV.tmp rfl) RVs.nil)) rfl rfl rfl ?_ ?_ ⟨⟨_, rfl, ?_⟩, trivial⟩
            · -- holds
              trivial
            · -- value
              first | (rw [hres]; rfl) | (rw [hres])
            · -- thing 0
              first | (rw [hres]; rfl) | (rw [hres])

theorem sortA_c {ms : List NV} {e : NV} (hl : ms.length ≤ 1048000) (hr : Rises (namesOf ms)) (hi : idxOf (nameIs e.name) ms < 0) :
    FnE (α := Unit) Try.prog 42 [.h 0, .p (.clo 43 [])] [(0, .vec 62 2 (ms.map encNV ++ [encNV e]))] [0] (fun _ => True) (fun _ => .tup []) (fun _ => [(0, .vec 62 2 ((setL ms e).map encNV))]) := by
  have h9 := sortN_c (zs := ms ++ [e]) (ys := setL ms e) (by simp) (by simp; omega) (sort_new hr hi)
  rw [List.map_append] at h9
  exact h9

set_option maxHeartbeats 4000000 in
theorem impl_ApplyChanges_c {xs : List NV} {cs : List Chg} (hn : xs.length ≤ 1048576) (hs : ∀ x ∈ xs, x.name.length ≤ 1048576) (hm : cs.length ≤ 1048576) (hcs : ∀ c ∈ cs, c.set.name.length ≤ 1048576) :
    FnE (α := Unit) Try.prog 10 [.p (.sl 2 (xs.map encNV)), .p (.sl 3 (cs.map encChg))] [] [] (fun _ => True) (fun _ => .tup [.h 0, .p (.v (.int .i64 (applyC xs cs).2))]) (fun _ => [(0, .vec 62 2 ((applyC xs cs).1.map encNV))]) := by
  have hC : (cs.map encChg).length = cs.length := List.length_map ..
  refine FnE.intro Try.func10 rfl Try.ntmps10 rfl rfl (fun w0 F0 η φ w => ?_)
  refine AC.seq ?_
  refine AC.region ?_
  refine AO.yld _ (Yld.assign rfl) rfl rfl rfl ?_
  refine AO.yld _ (Yld.assign rfl) rfl rfl rfl ?_
  refine AO.nil ?_
  refine AC.seq ?_
  refine AC.seq ?_
  refine AC.region ?_
  refine AO.yld _ (Yld.move rfl) rfl rfl rfl ?_
  refine AO.yld _ (Yld.call rfl rfl Try.call36 rfl rfl rfl (impl_ValidState_c hn hs) rfl) rfl rfl rfl ?_
  refine AO.yld _ (Yld.not rfl) rfl rfl rfl ?_
  refine AO.yld _ (Yld.move rfl) rfl rfl rfl ?_
  refine AO.splitAt 13 _ rfl (fun s13 => ?_) (fun s13 => ?_)
  · -- s13 True
    have hok : ¬ okState xs = true := by simpa using s13
    have hres : applyC xs cs = ([], 1) := if_neg (fun h => hok h.1)
    refine AO.skipF rfl rfl rfl rfl rfl ?_
    refine AO.skipF rfl rfl rfl rfl rfl ?_
    refine AO.yld _ (Yld.pickT rfl rfl) rfl rfl rfl ?_
    refine AO.nil ?_
    refine AC.condT rfl ?_
    refine AC.seq ?_
    refine AC.region ?_
    refine AO.yld _ (Yld.assign rfl) rfl rfl rfl ?_
    refine AO.yld _ (Yld.assign rfl) rfl rfl rfl ?_
    refine AO.nil ?_
    refine AC.nilVec 4 0 62 2 rfl rfl ?_
    refine FnE.ret () [0] [0] Try.results10 (RVs.cons (RV.tmp rfl) (RVs.cons (RV.tmp rfl) RVs.nil)) rfl rfl rfl ?_ ?_ ⟨⟨_, rfl, ?_⟩, trivial⟩
    · -- holds
      trivial
    · -- value
      first | (rw [hres]; rfl) | (rw [hres])
    · -- thing 0
      first | (rw [hres]; rfl) | (rw [hres])
  · -- s13 False
    have hok : okState xs = true := by simpa using s13
    refine AO.yldG _ (Yld.move rfl) rfl rfl rfl rfl rfl ?_
    refine AO.yldG _ (Yld.call rfl rfl Try.call37 rfl rfl rfl (containsFuncChange_c (p := fun c => !okChg c) (by omega) Try.call38 (fun c hc => applyChanges1_c (hcs c hc))) rfl) rfl rfl rfl rfl rfl ?_
    refine AO.yld _ (Yld.pickF rfl rfl) rfl rfl rfl ?_
    refine AO.nil ?_
    refine AC.cond _ rfl (fun c16 => ?_) (fun c16 => ?_)
    · -- c16 True
      have hres : applyC xs cs = ([], 1) := if_neg (fun h => by obtain ⟨c, hc, h9⟩ := List.any_eq_true.1 c16; rw [List.all_eq_true.1 h.2 c hc] at h9; cases h9)
      refine AC.seq ?_
      refine AC.region ?_
      refine AO.yld _ (Yld.assign rfl) rfl rfl rfl ?_
      refine AO.yld _ (Yld.assign rfl) rfl rfl rfl ?_
      refine AO.nil ?_
      refine AC.nilVec 4 0 62 2 rfl rfl ?_
      refine FnE.ret () [0] [0] Try.results10 (RVs.cons (RV.tmp rfl) (RVs.cons (RV.tmp rfl) RVs.nil)) rfl rfl rfl ?_ ?_ ⟨⟨_, rfl, ?_⟩, trivial⟩
      · -- holds
        trivial
      · -- value
        first | (rw [hres]; rfl) | (rw [hres])
      · -- thing 0
        first | (rw [hres]; rfl) | (rw [hres])
    · -- c16 False
      have hall : cs.all okChg = true := List.all_eq_true.2 (fun c hc => by have h9 := List.any_eq_false.1 c16 c hc; simpa using h9)
      have hap : applyC xs cs = applyA cs xs := if_pos ⟨hok, hall⟩
      refine AC.skip ?_
      refine AC.seq ?_
      refine AC.region ?_
      refine AO.yld _ (Yld.move rfl) rfl rfl rfl ?_
      refine AO.callW (wantedN rfl) [0] [] [0] rfl rfl Try.call40 rfl (cloneSetting_c (by first | assumption | omega)) (.flat (.view rfl rfl .nil) (fun _ => by simp [AV.Flat, AV.FlatL, PV.Flat, PV.FlatL]) (fun _ => ⟨flat_map flatNV _, trivial⟩)) rfl (fun _ => rfl) trivial rfl (fun _ => rfl) (fun _ => rfl) (fun _ _ => ?_)
      refine AO.yld _ (Yld.assign rfl) rfl rfl rfl ?_
      refine AO.nil ?_
      refine AC.seq ?_
      refine AC.seq ?_
      refine AC.region ?_
      refine AO.yld _ (Yld.move rfl) rfl rfl rfl ?_
      refine AO.yld _ (Yld.len Try.underlying30 rfl rfl) rfl rfl rfl ?_
      refine AO.yld _ (Yld.move rfl) rfl rfl rfl ?_
      refine AO.nil ?_
      refine AC.block ?_
      refine AC.loopC2 [(19, _), (20, _)] [(900, _)] (fun (k : Nat) (ms : List NV) => [(21, .p (.v (.int .i64 (k : Int)))), (6, .h 0)]) (fun (k : Nat) (ms : List NV) => [(0, .vec 62 2 (ms.map encNV))]) (fun (k : Nat) (ms : List NV) => AJ xs cs k ms) (fun (k : Nat) (ms : List NV) => cs.length - k) 0 xs ⟨rfl, rfl, trivial⟩ ⟨rfl, trivial⟩ ⟨rfl, rfl, trivial⟩ ⟨rfl, trivial⟩ ?_ (fun k ms hJ => ?_)
      · exact AJ.start hok hs
      · -- round
        have hJl := hJ.le
        have hJn := hJ.len
        refine AC.seq ?_
        refine AC.region ?_
        refine AO.yld _ (Yld.int rfl rfl rfl) rfl rfl rfl ?_
        refine AO.nil ?_
        refine AC.seq ?_
        refine AC.cond _ rfl (fun c22 => ?_) (fun c22 => ?_)
        · -- c22 True
          have hk : k < cs.length := by have h := c22; rw [hC] at h; simpa using h
          obtain ⟨c, hc⟩ := get_some hk
          have hrow := map_row (enc := encChg) hc
          have hokc := List.all_eq_true.1 hall c (List.mem_of_getElem? hc)
          have hcn := hcs c (List.mem_of_getElem? hc)
          refine AC.skip ?_
          refine AC.seq ?_
          refine AC.block ?_
          refine AC.seq ?_
          refine AC.region ?_
          refine AO.yld _ (Yld.indexSl Try.underlying30 Try.sizeOf64 rfl rfl hrow rfl) rfl rfl rfl ?_
          refine AO.yld _ (Yld.loadAgg Try.isAgg64 Try.sizeOf64 rfl rfl rfl rfl) rfl rfl rfl ?_
          refine AO.alloc 1 Try.zeroValue64 rfl rfl rfl ?_
          refine AO.store Try.sizeOf64 rfl rfl rfl rfl rfl rfl ?_
          refine AO.nil ?_
          refine AC.seq ?_
          refine AC.region ?_
          refine AO.yld _ (Yld.move rfl) rfl rfl rfl ?_
          refine AO.yld _ (Yld.fieldAddr Try.underlying64 rfl rfl Try.sizeOf62 rfl rfl rfl) rfl rfl rfl ?_
          refine AO.yld _ (Yld.fieldAddr Try.underlying62 rfl rfl Try.sizeOf9 rfl rfl rfl) rfl rfl rfl ?_
          refine AO.yld _ (Yld.load Try.isAgg9 rfl rfl) rfl rfl rfl ?_
          refine AO.yld _ (Yld.call rfl rfl Try.call41 rfl rfl rfl (impl_settingIndex_c (by omega)) rfl) rfl rfl rfl ?_
          refine AO.yld _ (Yld.assign rfl) rfl rfl rfl ?_
          refine AO.nil ?_
          refine AC.block ?_
          refine AC.seq ?_
          refine AC.region ?_
          refine AO.yld _ (Yld.fieldAddr Try.underlying64 rfl rfl Try.sizeOf2 rfl rfl rfl) rfl rfl rfl ?_
          refine AO.yld _ (Yld.load Try.isAgg2 rfl rfl) rfl rfl rfl ?_
          refine AO.yld _ (Yld.int rfl rfl rfl) rfl rfl rfl ?_
          refine AO.yld _ (Yld.move rfl) rfl rfl rfl ?_
          refine AO.splitAt 39 _ rfl (fun s39 => ?_) (fun s39 => ?_)
          · -- s39 True
            have hk1 : c.kind = 1 := by simpa using s39
            refine AO.yldG _ (Yld.move rfl) rfl rfl rfl rfl rfl ?_
            refine AO.yldG _ (Yld.int rfl rfl rfl) rfl rfl rfl rfl rfl ?_
            refine AO.yld _ (Yld.pickT rfl rfl) rfl rfl rfl ?_
            refine AO.yld _ (Yld.assign rfl) rfl rfl rfl ?_
            refine AO.nil ?_
            refine AC.cond _ rfl (fun c35 => ?_) (fun c35 => ?_)
            · -- c35 True
              have hi0 : 0 ≤ idxOf (nameIs c.set.name) ms := by simpa using c35
              obtain ⟨an, y, han, hy, hyn⟩ := idx_at9 hi0
              have hal := lt_of_get hy
              have hrowY := map_row (enc := encNV) hy
              have hsa := set_at9 hJ.rise hy hyn
              have hso := setL_old hJ.rise hy hyn
              refine AC.region ?_
              refine AO.yld _ (Yld.move rfl) rfl rfl rfl ?_
              refine AO.yld _ (Yld.move rfl) rfl rfl rfl ?_
              refine AO.yld _ (Yld.fieldAddr Try.underlying64 rfl rfl Try.sizeOf62 rfl rfl rfl) rfl rfl rfl ?_
              refine AO.yld _ (Yld.loadAgg Try.isAgg62 Try.sizeOf62 rfl rfl rfl rfl) rfl rfl rfl ?_
              refine AO.yld _ (Yld.indexVec Try.underlying26 Try.sizeOf62 rfl rfl rfl (show _ = ((an : Nat) : Int) from han) (by rw [List.length_map]; exact hal)) rfl rfl rfl ?_
              refine AO.store Try.sizeOf62 rfl rfl rfl rfl rfl (store_el rfl hrowY rfl rfl) ?_
              refine AO.nil ?_
              refine AC.mark ?_
              refine AC.mark ?_
              refine AC.region ?_
              refine AO.yld _ (Yld.add rfl rfl (by omega) (by omega)) rfl rfl rfl ?_
              refine AO.yld _ (Yld.move rfl) rfl rfl rfl ?_
              refine AO.nil ?_
              refine AC.back ⟨k + 1, setL ms c.set, ?_, ?_, ⟨?_, ?_, trivial⟩, ⟨?_, trivial⟩, ⟨rfl, rfl, trivial⟩, ⟨rfl, trivial⟩⟩
              · exact hJ.set hc hk1 (by rw [hso]; omega) hcn
              · omega
              · rfl
              · rfl
              · first | rfl | (rw [← hsa, List.map_set]; rfl)
            · -- c35 False
              have hineg : idxOf (nameIs c.set.name) ms < 0 := by have h := c35; simp only [ge_iff_le, decide_eq_false_iff_not] at h; omega
              have hsn := setL_new hineg
              refine AC.seq ?_
              refine AC.region ?_
              refine AO.yld _ (Yld.fieldAddr Try.underlying64 rfl rfl Try.sizeOf2 rfl rfl rfl) rfl rfl rfl ?_
              refine AO.yld _ (Yld.load Try.isAgg2 rfl rfl) rfl rfl rfl ?_
              refine AO.yld _ (Yld.int rfl rfl rfl) rfl rfl rfl ?_
              refine AO.yld _ (Yld.move rfl) rfl rfl rfl ?_
              refine AO.splitAt 52 _ rfl (fun s52 => ?_) (fun s52 => ?_)
              · -- s52 True
                refine AO.yldG _ (Yld.move rfl) rfl rfl rfl rfl rfl ?_
                refine AO.yldG _ (Yld.len Try.underlying26 rfl rfl) rfl rfl rfl rfl rfl ?_
                refine AO.yldG _ (Yld.int rfl rfl rfl) rfl rfl rfl rfl rfl ?_
                refine AO.yld _ (Yld.pickT rfl rfl) rfl rfl rfl ?_
                refine AO.yld _ (Yld.assign rfl) rfl rfl rfl ?_
                refine AO.nil ?_
                refine AC.cond _ rfl (fun c48 => ?_) (fun c48 => ?_)
                · -- c48 True
                  have hl24 : ms.length = 24 := by have h := c48; rw [List.length_map] at h; simp at h; omega
                  have hres : applyC xs cs = ([], 5) := hap.trans (hJ.full hc hk1 (by rw [hsn]; omega))
                  refine AC.seq ?_
                  refine AC.region ?_
                  refine AO.yld _ (Yld.assign rfl) rfl rfl rfl ?_
                  refine AO.yld _ (Yld.assign rfl) rfl rfl rfl ?_
                  refine AO.nil ?_
                  refine AC.nilVec 4 2 62 2 rfl rfl ?_
                  refine FnE.ret () [2] [0] Try.results10 (RVs.cons (RV.tmp rfl) (RVs.cons (RV.tmp rfl) RVs.nil)) rfl rfl rfl ?_ ?_ ⟨⟨_, rfl, ?_⟩, trivial⟩
                  · -- holds
                    trivial
                  · -- value
                    first | (rw [hres]; rfl) | (rw [hres])
                  · -- thing 0
                    first | (rw [hres]; rfl) | (rw [hres])
                · -- c48 False
                  have hl24 : ¬ ms.length = 24 := by have h := c48; rw [List.length_map] at h; simp at h; omega
                  refine AC.seq ?_
                  refine AC.region ?_
                  refine AO.yld _ (Yld.fieldAddr Try.underlying64 rfl rfl Try.sizeOf2 rfl rfl rfl) rfl rfl rfl ?_
                  refine AO.yld _ (Yld.load Try.isAgg2 rfl rfl) rfl rfl rfl ?_
                  refine AO.yld _ (Yld.int rfl rfl rfl) rfl rfl rfl ?_
                  refine AO.yld _ (Yld.assign rfl) rfl rfl rfl ?_
                  refine AO.nil ?_
                  refine AC.cond _ rfl (fun c57 => ?_) (fun c57 => ?_)
                  · -- c57 True
                    refine AC.seq ?_
                    refine AC.region ?_
                    refine AO.yld _ (Yld.move rfl) rfl rfl rfl ?_
                    refine AO.yld _ (Yld.fieldAddr Try.underlying64 rfl rfl Try.sizeOf62 rfl rfl rfl) rfl rfl rfl ?_
                    refine AO.yld _ (Yld.loadAgg Try.isAgg62 Try.sizeOf62 rfl rfl rfl rfl) rfl rfl rfl ?_
                    refine AO.buildSlice (rows := [[_, _]]) 2 Try.underlying26 ty62 rfl rfl rfl rfl rfl rfl rfl rfl rfl ?_
                    refine AO.append 0 Try.underlying26 ty62 rfl rfl rfl rfl rfl rfl rfl (by simp [pvOne, str]) (by simp only [List.length_map, List.length_cons, List.length_nil, List.length_append, List.length_take, List.length_drop]; omega) (by simp only [List.length_map, List.length_cons, List.length_nil, List.length_append, List.length_take, List.length_drop]; omega) rfl ?_
                    refine AO.yld _ (Yld.assign rfl) rfl rfl rfl ?_
                    refine AO.nil ?_
                    refine AC.region ?_
                    refine AO.yld _ (Yld.move rfl) rfl rfl rfl ?_
                    refine AO.callW (wantedN rfl) [0] [0] [0] rfl rfl Try.call42 rfl (sortA_c (ms := ms) (e := c.set) (by omega) hJ.rise hineg) (.own rfl) rfl (fun _ => rfl) ⟨rfl, trivial⟩ rfl (fun _ => rfl) (fun _ => rfl) (fun _ _ => ?_)
                    refine AO.nil ?_
                    refine AC.mark ?_
                    refine AC.mark ?_
                    refine AC.region ?_
                    refine AO.yld _ (Yld.add rfl rfl (by omega) (by omega)) rfl rfl rfl ?_
                    refine AO.yld _ (Yld.move rfl) rfl rfl rfl ?_
                    refine AO.nil ?_
                    refine AC.back ⟨k + 1, setL ms c.set, ?_, ?_, ⟨?_, ?_, trivial⟩, ⟨?_, trivial⟩, ⟨rfl, rfl, trivial⟩, ⟨rfl, trivial⟩⟩
                    · exact hJ.set hc hk1 (by rw [hsn]; omega) hcn
                    · omega
                    · rfl
                    · rfl
                    · first | rfl | (rw [← hsa, List.map_set]; rfl)
                  · -- c57 False
                    exfalso; exact absurd hk1 (by simpa using c57)
              · -- s52 False
                exfalso; exact absurd hk1 (by simpa using s52)
          · -- s39 False
            have hk1 : ¬ c.kind = 1 := by simpa using s39
            refine AO.skipT rfl rfl rfl rfl rfl ?_
            refine AO.skipT rfl rfl rfl rfl rfl ?_
            refine AO.yld _ (Yld.pickF rfl rfl) rfl rfl rfl ?_
            refine AO.yld _ (Yld.assign rfl) rfl rfl rfl ?_
            refine AO.nil ?_
            refine AC.condF rfl ?_
            refine AC.seq ?_
            refine AC.region ?_
            refine AO.yld _ (Yld.fieldAddr Try.underlying64 rfl rfl Try.sizeOf2 rfl rfl rfl) rfl rfl rfl ?_
            refine AO.yld _ (Yld.load Try.isAgg2 rfl rfl) rfl rfl rfl ?_
            refine AO.yld _ (Yld.int rfl rfl rfl) rfl rfl rfl ?_
            refine AO.yld _ (Yld.move rfl) rfl rfl rfl ?_
            refine AO.splitAt 52 _ rfl (fun s52 => ?_) (fun s52 => ?_)
            · -- s52 True
              exfalso; exact hk1 (by simpa using s52)
            · -- s52 False
              refine AO.skipT rfl rfl rfl rfl rfl ?_
              refine AO.skipT rfl rfl rfl rfl rfl ?_
              refine AO.skipT rfl rfl rfl rfl rfl ?_
              refine AO.yld _ (Yld.pickF rfl rfl) rfl rfl rfl ?_
              refine AO.yld _ (Yld.assign rfl) rfl rfl rfl ?_
              refine AO.nil ?_
              refine AC.condF rfl ?_
              refine AC.seq ?_
              refine AC.region ?_
              refine AO.yld _ (Yld.fieldAddr Try.underlying64 rfl rfl Try.sizeOf2 rfl rfl rfl) rfl rfl rfl ?_
              refine AO.yld _ (Yld.load Try.isAgg2 rfl rfl) rfl rfl rfl ?_
              refine AO.yld _ (Yld.int rfl rfl rfl) rfl rfl rfl ?_
              refine AO.yld _ (Yld.assign rfl) rfl rfl rfl ?_
              refine AO.nil ?_
              refine AC.cond _ rfl (fun c57 => ?_) (fun c57 => ?_)
              · -- c57 True
                exfalso; exact hk1 (by simpa using c57)
              · -- c57 False
                refine AC.seq ?_
                refine AC.region ?_
                refine AO.yld _ (Yld.move rfl) rfl rfl rfl ?_
                refine AO.yld _ (Yld.int rfl rfl rfl) rfl rfl rfl ?_
                refine AO.yld _ (Yld.assign rfl) rfl rfl rfl ?_
                refine AO.nil ?_
                refine AC.cond _ rfl (fun c68 => ?_) (fun c68 => ?_)
                · -- c68 True
                  have hres : applyC xs cs = ([], 3) := hap.trans (hJ.miss hc hk1 (by simpa using c68))
                  refine AC.seq ?_
                  refine AC.region ?_
                  refine AO.yld _ (Yld.assign rfl) rfl rfl rfl ?_
                  refine AO.yld _ (Yld.assign rfl) rfl rfl rfl ?_
                  refine AO.nil ?_
                  refine AC.nilVec 4 2 62 2 rfl rfl ?_
                  refine FnE.ret () [2] [0] Try.results10 (RVs.cons (RV.tmp rfl) (RVs.cons (RV.tmp rfl) RVs.nil)) rfl rfl rfl ?_ ?_ ⟨⟨_, rfl, ?_⟩, trivial⟩
                  · -- holds
                    trivial
                  · -- value
                    first | (rw [hres]; rfl) | (rw [hres])
                  · -- thing 0
                    first | (rw [hres]; rfl) | (rw [hres])
                · -- c68 False
                  have hi0 : 0 ≤ idxOf (nameIs c.set.name) ms := by simpa using c68
                  obtain ⟨an, y, han, hy, hyn⟩ := idx_at9 hi0
                  have hal := lt_of_get hy
                  have hrowY := map_row (enc := encNV) hy
                  refine AC.seq ?_
                  refine AC.draw (by kernel_rfl) (by kernel_rfl) ?_
                  refine AO.yld _ (Yld.move rfl) rfl rfl rfl ?_
                  refine AO.yld _ (Yld.move rfl) rfl rfl rfl ?_
                  refine AO.yld _ (Yld.indexVec Try.underlying26 Try.sizeOf62 rfl rfl rfl (show _ = ((an : Nat) : Int) from han) (by rw [List.length_map]; exact hal)) rfl rfl rfl ?_
                  refine AO.yld _ (Yld.loadAgg Try.isAgg62 Try.sizeOf62 rfl (behind_el rfl hrowY) rfl rfl) rfl rfl rfl ?_
                  refine AO.yld _ (Yld.fieldAddr Try.underlying64 rfl rfl Try.sizeOf62 rfl rfl rfl) rfl rfl rfl ?_
                  refine AO.yld _ (Yld.loadAgg Try.isAgg62 Try.sizeOf62 rfl rfl rfl rfl) rfl rfl rfl ?_
                  refine AO.yld _ (Yld.binV rfl rfl rfl rfl rfl rfl (by exact neSetting)) rfl rfl rfl ?_
                  refine AO.yld _ (Yld.assign rfl) rfl rfl rfl ?_
                  refine AO.nil ?_
                  refine AC.cond _ rfl (fun c71 => ?_) (fun c71 => ?_)
                  · -- c71 True
                    have hye : ¬ y = c.set := by simpa using c71
                    have hres : applyC xs cs = ([], 6) := hap.trans (hJ.other hc hk1 han hy hye)
                    refine AC.seq ?_
                    refine AC.region ?_
                    refine AO.yld _ (Yld.assign rfl) rfl rfl rfl ?_
                    refine AO.yld _ (Yld.assign rfl) rfl rfl rfl ?_
                    refine AO.nil ?_
                    refine AC.nilVec 4 2 62 2 rfl rfl ?_
                    refine FnE.ret () [2] [0] Try.results10 (RVs.cons (RV.tmp rfl) (RVs.cons (RV.tmp rfl) RVs.nil)) rfl rfl rfl ?_ ?_ ⟨⟨_, rfl, ?_⟩, trivial⟩
                    · -- holds
                      trivial
                    · -- value
                      first | (rw [hres]; rfl) | (rw [hres])
                    · -- thing 0
                      first | (rw [hres]; rfl) | (rw [hres])
                  · -- c71 False
                    have hye : y = c.set := by simpa using c71
                    refine AC.region ?_
                    refine AO.yld _ (Yld.move rfl) rfl rfl rfl ?_
                    refine AO.yld _ (Yld.move rfl) rfl rfl rfl ?_
                    refine AO.yld _ (Yld.move rfl) rfl rfl rfl ?_
                    refine AO.yld _ (Yld.add rfl rfl (by omega) (by omega)) rfl rfl rfl ?_
                    refine AO.callW (wantedN rfl) [0] [0] [0] rfl rfl Try.call45 rfl (delN_c (zs := ms) (i := an) han rfl hal) (.own rfl) rfl (fun _ => rfl) ⟨rfl, trivial⟩ rfl (fun _ => rfl) (fun _ => rfl) (fun _ _ => ?_)
                    refine AO.yld _ (Yld.assign rfl) rfl rfl rfl ?_
                    refine AO.nil ?_
                    refine AC.mark ?_
                    refine AC.mark ?_
                    refine AC.region ?_
                    refine AO.yld _ (Yld.add rfl rfl (by omega) (by omega)) rfl rfl rfl ?_
                    refine AO.yld _ (Yld.move rfl) rfl rfl rfl ?_
                    refine AO.nil ?_
                    refine AC.back ⟨k + 1, ms.eraseIdx an, ?_, ?_, ⟨?_, ?_, trivial⟩, ⟨?_, trivial⟩, ⟨rfl, rfl, trivial⟩, ⟨rfl, trivial⟩⟩
                    · exact hJ.del hc hk1 han hy hye
                    · omega
                    · rfl
                    · rfl
                    · first | rfl | (rw [← hsa, List.map_set]; rfl)
        · -- c22 False
          obtain rfl : k = cs.length := by have h := c22; rw [hC] at h; simp at h; omega
          have hres : applyC xs cs = (ms, 0) := hap.trans hJ.fin
          refine AC.exit rfl ?_
          refine AC.seq ?_
          refine AC.region ?_
          refine AO.yld _ (Yld.move rfl) rfl rfl rfl ?_
          refine AO.yld _ (Yld.assign rfl) rfl rfl rfl ?_
          refine AO.yld _ (Yld.assign rfl) rfl rfl rfl ?_
          refine AO.nil ?_
          refine FnE.ret () [0] [0] Try.results10 (RVs.cons (RV.tmp rfl) (RVs.cons (RV.tmp rfl) RVs.nil)) rfl rfl rfl ?_ ?_ ⟨⟨_, rfl, ?_⟩, trivial⟩
          · -- holds
            trivial
          · -- value
            first | (rw [hres]; rfl) | (rw [hres])
          · -- thing 0
            first | (rw [hres]; rfl) | (rw [hres])

end Go.Proofs.Ytdlpkfihjfmgeaa
