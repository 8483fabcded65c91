/- Contracts of functions of the program, each by a walk of its text in the calculus V. -/
import Derived.Test.YtbbechcbdeknnaaR3B
set_option linter.all false
set_option linter.unusedSimpArgs false
set_option linter.unnecessarySimpa false
set_option linter.unusedVariables false
namespace Go.Proofs.Ytbbechcbdeknnaa
open Go Go.V

theorem indexFuncNeed_c {xs : List NV} {f : FuncId} {caps : List PV} {p : NV → Bool} (hn : xs.length ≤ 1048576) (hf : Enters Try.prog f) (hp : ∀ x ∈ xs, Pure Try.prog f (.agg (encNV x) :: caps) (.v (.bool (p x)))) :
    Pure Try.prog 24 [.sl 2 (xs.map encNV), .clo f caps] (.v (.int .i64 (idxOf p xs))) := by
  refine Pure.intro Try.func24 rfl Try.ntmps24 rfl rfl (fun w => ?_)
  refine AC.seq ?_
  refine AC.region ?_
  refine AO.yld _ (Yld.assign rfl) rfl rfl rfl ?_
  refine AO.nil ?_
  refine AC.seq ?_
  refine AC.seq ?_
  refine AC.region ?_
  refine AO.yld _ (Yld.move rfl) rfl rfl rfl ?_
  refine AO.yld _ (Yld.len Try.underlying26 rfl rfl) rfl rfl rfl ?_
  refine AO.yld _ (Yld.move rfl) rfl rfl rfl ?_
  refine AO.nil ?_
  refine AC.block ?_
  refine AC.loopC [(0, _), (1, _), (7, _)] [] (fun (k : Nat) => [(8, .p (.v (.int .i64 (k : Int))))]) (fun (k : Nat) => []) (fun (k : Nat) => k ≤ xs.length ∧ anyTo p xs k = false) (fun (k : Nat) => xs.length - k) 0 ⟨rfl, rfl, rfl, trivial⟩ trivial ⟨rfl, trivial⟩ trivial ?_ (fun k hJ => ?_)
  · exact ⟨Nat.zero_le _, rfl⟩
  · -- round
    refine AC.seq ?_
    refine AC.region ?_
    refine AO.yld _ (Yld.int rfl rfl rfl) rfl rfl rfl ?_
    refine AO.nil ?_
    refine AC.seq ?_
    refine AC.cond _ rfl (fun c9 => ?_) (fun c9 => ?_)
    · -- c9 True
      have hk := lt_of_decM c9
      obtain ⟨x, hx⟩ := get_some hk
      have hrow := map_row (enc := encNV) hx
      refine AC.skip ?_
      refine AC.seq ?_
      refine AC.block ?_
      refine AC.seq ?_
      refine AC.region ?_
      refine AO.yld _ (Yld.move rfl) rfl rfl rfl ?_
      refine AO.yld _ (Yld.assign rfl) rfl rfl rfl ?_
      refine AO.nil ?_
      refine AC.seq ?_
      refine AC.region ?_
      refine AO.yld _ (Yld.move rfl) rfl rfl rfl ?_
      refine AO.yld _ (Yld.move rfl) rfl rfl rfl ?_
      refine AO.yld _ (Yld.move rfl) rfl rfl rfl ?_
      refine AO.yld _ (Yld.indexSl Try.underlying26 Try.sizeOf31 rfl rfl hrow rfl) rfl rfl rfl ?_
      refine AO.yld _ (Yld.loadAgg Try.isAgg31 Try.sizeOf31 rfl rfl rfl rfl) rfl rfl rfl ?_
      refine AO.yld _ (Yld.call rfl rfl hf rfl rfl (viewL_p _) (hp x (List.mem_of_getElem? hx)) rfl) rfl rfl rfl ?_
      refine AO.nil ?_
      refine AC.cond _ rfl (fun c16 => ?_) (fun c16 => ?_)
      · -- c16 True
        refine AC.seq ?_
        refine AC.region ?_
        refine AO.yld _ (Yld.move rfl) rfl rfl rfl ?_
        refine AO.yld _ (Yld.assign rfl) rfl rfl rfl ?_
        refine AO.nil ?_
        refine Pure.ret Try.results24 (RVs.cons (RV.tmp rfl) RVs.nil) rfl ?_
        first
          | exact ci (idx_hit hJ.2 hx (by simpa using c16))
          | exact ci (idx_miss hJ.2)
      · -- c16 False
        refine AC.skip ?_
        refine AC.mark ?_
        refine AC.region ?_
        refine AO.yld _ (Yld.add rfl rfl (by omega) (by omega)) rfl rfl rfl ?_
        refine AO.yld _ (Yld.move rfl) rfl rfl rfl ?_
        refine AO.nil ?_
        refine AC.back ⟨k + 1, ?_, ?_, ⟨?_, trivial⟩, trivial, ⟨rfl, rfl, rfl, trivial⟩, trivial⟩
        · exact ⟨hk, by rw [anyTo_succ hx, hJ.2]; simpa using c16⟩
        · omega
        · rfl
    · -- c9 False
      obtain rfl : k = xs.length := by have := ge_of_decM c9; omega
      refine AC.exit rfl ?_
      refine AC.seq ?_
      refine AC.region ?_
      refine AO.yld _ (Yld.assign rfl) rfl rfl rfl ?_
      refine AO.nil ?_
      refine Pure.ret Try.results24 (RVs.cons (RV.tmp rfl) RVs.nil) rfl ?_
      first
        | exact ci (idx_hit hJ.2 hx (by simpa using c16))
        | exact ci (idx_miss hJ.2)

theorem containsFuncNeed_c {xs : List NV} {f : FuncId} {caps : List PV} {p : NV → Bool} (hn : xs.length ≤ 1048576) (hf : Enters Try.prog f) (hp : ∀ x ∈ xs, Pure Try.prog f (.agg (encNV x) :: caps) (.v (.bool (p x)))) :
    Pure Try.prog 20 [.sl 2 (xs.map encNV), .clo f caps] (.v (.bool (xs.any p))) := by
  refine Pure.intro Try.func20 rfl Try.ntmps20 rfl rfl (fun w => ?_)
  refine AC.seq ?_
  refine AC.region ?_
  refine AO.yld _ (Yld.assign rfl) rfl rfl rfl ?_
  refine AO.nil ?_
  refine AC.seq ?_
  refine AC.region ?_
  refine AO.yld _ (Yld.move rfl) rfl rfl rfl ?_
  refine AO.yld _ (Yld.move rfl) rfl rfl rfl ?_
  refine AO.yld _ (Yld.call rfl rfl Try.call24 rfl rfl rfl (indexFuncNeed_c (by first | assumption | omega) hf hp) rfl) rfl rfl rfl ?_
  refine AO.yld _ (Yld.int rfl rfl rfl) rfl rfl rfl ?_
  refine AO.yld _ (Yld.assign rfl) rfl rfl rfl ?_
  refine AO.nil ?_
  refine Pure.ret Try.results20 (RVs.cons (RV.tmp rfl) RVs.nil) rfl ?_
  exact cb idx_any.symm

theorem validNeeds1_c {x y : NV} :
    Pure Try.prog 21 [.agg (encNV y), .ptr (encNV x)] (.v (.bool (nameIs x.name y))) := by
  refine Pure.intro Try.func21 rfl Try.ntmps21 rfl rfl (fun w => ?_)
  refine AC.seq ?_
  refine AC.region ?_
  refine AO.box 0 rfl rfl rfl rfl rfl ?_
  refine AO.yld _ (Yld.assign rfl) rfl rfl rfl ?_
  refine AO.nil ?_
  refine AC.seq ?_
  refine AC.region ?_
  refine AO.yld _ (Yld.fieldAddr Try.underlying31 rfl rfl Try.sizeOf9 rfl rfl rfl) rfl rfl rfl ?_
  refine AO.yld _ (Yld.load Try.isAgg9 rfl rfl) rfl rfl rfl ?_
  refine AO.yld _ (Yld.fieldAddr Try.underlying31 rfl rfl Try.sizeOf9 rfl rfl rfl) rfl rfl rfl ?_
  refine AO.yld _ (Yld.load Try.isAgg9 rfl rfl) rfl rfl rfl ?_
  refine AO.yld _ (Yld.cmpStr rfl rfl rfl) rfl rfl rfl ?_
  refine AO.yld _ (Yld.assign rfl) rfl rfl rfl ?_
  refine AO.nil ?_
  refine Pure.ret Try.results21 (RVs.cons (RV.tmp rfl) RVs.nil) rfl ?_
  refine cb ?_; unfold nameIs; by_cases h : y.name = x.name <;> simp [h]

theorem impl_ValidNeeds_c {ms xs : List NV} (hm : ms.length ≤ 1048576) (hms : ∀ x ∈ ms, x.name.length ≤ 1048576) (hn : xs.length ≤ 1048576) (hs : ∀ x ∈ xs, x.name.length ≤ 1048576) :
    Pure Try.prog 10 [.sl 2 (ms.map encNV), .sl 2 (xs.map encNV)] (.v (.bool (okNeeds ms xs))) := by
  have hM : (xs.map encNV).length = xs.length := List.length_map ..
  refine Pure.intro Try.func10 rfl Try.ntmps10 rfl rfl (fun w => ?_)
  refine AC.seq ?_
  refine AC.region ?_
  refine AO.yld _ (Yld.assign rfl) rfl rfl rfl ?_
  refine AO.nil ?_
  refine AC.seq ?_
  refine AC.seq ?_
  refine AC.region ?_
  refine AO.yld _ (Yld.move rfl) rfl rfl rfl ?_
  refine AO.yld _ (Yld.call rfl rfl Try.call18 rfl rfl rfl (impl_ValidMedia_c (by first | assumption | omega) (by assumption)) rfl) rfl rfl rfl ?_
  refine AO.yld _ (Yld.not rfl) rfl rfl rfl ?_
  refine AO.yld _ (Yld.move rfl) rfl rfl rfl ?_
  refine AO.splitAt 10 _ rfl (fun s10 => ?_) (fun s10 => ?_)
  · -- s10 True
    refine AO.skipF rfl rfl rfl rfl rfl ?_
    refine AO.skipF rfl rfl rfl rfl rfl ?_
    refine AO.skipF rfl rfl rfl rfl rfl ?_
    refine AO.yld _ (Yld.pickT rfl rfl) rfl rfl rfl ?_
    refine AO.nil ?_
    refine AC.condT rfl ?_
    refine AC.seq ?_
    refine AC.region ?_
    refine AO.yld _ (Yld.assign rfl) rfl rfl rfl ?_
    refine AO.nil ?_
    refine Pure.ret Try.results10 (RVs.cons (RV.tmp rfl) RVs.nil) rfl ?_
    first
      | (refine cb ?_; unfold okNeeds; rw [hok.1, allI_take hJ.2, decide_eq_true hok.2]; rfl)
      | (refine cb ?_; unfold okNeeds; rw [allI_miss hx (by simp only [okNeed, hz]; first | grind | (simp_all; done)), Bool.false_and, Bool.and_false])
      | (refine cb ?_; unfold okNeeds; rw [show okMedias ms = false by simpa using s10, Bool.false_and])
      | (refine cb ?_; unfold okNeeds; have h : ¬ xs.length ≤ 16 := (by have h := c14; simp only [hM] at h; simp at h; omega); rw [decide_eq_false h, Bool.and_false, Bool.and_false])
  · -- s10 False
    refine AO.yldG _ (Yld.move rfl) rfl rfl rfl rfl rfl ?_
    refine AO.yldG _ (Yld.len Try.underlying26 rfl rfl) rfl rfl rfl rfl rfl ?_
    refine AO.yldG _ (Yld.int rfl rfl rfl) rfl rfl rfl rfl rfl ?_
    refine AO.yld _ (Yld.pickF rfl rfl) rfl rfl rfl ?_
    refine AO.nil ?_
    refine AC.cond _ rfl (fun c14 => ?_) (fun c14 => ?_)
    · -- c14 True
      refine AC.seq ?_
      refine AC.region ?_
      refine AO.yld _ (Yld.assign rfl) rfl rfl rfl ?_
      refine AO.nil ?_
      refine Pure.ret Try.results10 (RVs.cons (RV.tmp rfl) RVs.nil) rfl ?_
      first
        | (refine cb ?_; unfold okNeeds; rw [hok.1, allI_take hJ.2, decide_eq_true hok.2]; rfl)
        | (refine cb ?_; unfold okNeeds; rw [allI_miss hx (by simp only [okNeed, hz]; first | grind | (simp_all; done)), Bool.false_and, Bool.and_false])
        | (refine cb ?_; unfold okNeeds; rw [show okMedias ms = false by simpa using s10, Bool.false_and])
        | (refine cb ?_; unfold okNeeds; have h : ¬ xs.length ≤ 16 := (by have h := c14; simp only [hM] at h; simp at h; omega); rw [decide_eq_false h, Bool.and_false, Bool.and_false])
    · -- c14 False
      have hok : okMedias ms = true ∧ xs.length ≤ 16 := ⟨by simpa using s10, by have h := c14; simp only [hM] at h; simp at h; omega⟩
      refine AC.skip ?_
      refine AC.seq ?_
      refine AC.seq ?_
      refine AC.region ?_
      refine AO.yld _ (Yld.move rfl) rfl rfl rfl ?_
      refine AO.yld _ (Yld.len Try.underlying26 rfl rfl) rfl rfl rfl ?_
      refine AO.yld _ (Yld.move rfl) rfl rfl rfl ?_
      refine AO.nil ?_
      refine AC.block ?_
      refine AC.loopC [(0, _), (1, _), (15, _), (16, _)] [] (fun (k : Nat) => [(17, .p (.v (.int .i64 (k : Int))))]) (fun (k : Nat) => []) (fun (k : Nat) => k ≤ xs.length ∧ allITo (okNeed ms xs) xs k = true) (fun (k : Nat) => xs.length - k) 0 ⟨rfl, rfl, rfl, rfl, trivial⟩ trivial ⟨rfl, trivial⟩ trivial ?_ (fun k hJ => ?_)
      · exact ⟨Nat.zero_le _, rfl⟩
      · -- round
        refine AC.seq ?_
        refine AC.region ?_
        refine AO.yld _ (Yld.int rfl rfl rfl) rfl rfl rfl ?_
        refine AO.nil ?_
        refine AC.seq ?_
        refine AC.cond _ rfl (fun c18 => ?_) (fun c18 => ?_)
        · -- c18 True
          have hk := lt_of_decM c18
          obtain ⟨x, hx⟩ := get_some hk
          have hrow := map_row (enc := encNV) hx
          obtain ⟨z, hz⟩ := get_some (xs := xs) (k := k - 1) (by omega)
          have hrowz := map_row (enc := encNV) hz
          refine AC.skip ?_
          refine AC.seq ?_
          refine AC.block ?_
          refine AC.seq ?_
          refine AC.region ?_
          refine AO.yld _ (Yld.move rfl) rfl rfl rfl ?_
          refine AO.yld _ (Yld.indexSl Try.underlying26 Try.sizeOf31 rfl rfl hrow rfl) rfl rfl rfl ?_
          refine AO.yld _ (Yld.loadAgg Try.isAgg31 Try.sizeOf31 rfl rfl rfl rfl) rfl rfl rfl ?_
          refine AO.alloc 0 Try.zeroValue31 rfl rfl rfl ?_
          refine AO.yld _ (Yld.assign rfl) rfl rfl rfl ?_
          refine AO.store Try.sizeOf31 rfl rfl rfl rfl rfl rfl ?_
          refine AO.nil ?_
          refine AC.seq ?_
          refine AC.seq ?_
          refine AC.draw (by kernel_rfl) (by kernel_rfl) ?_
          refine AO.yld _ (Yld.move rfl) rfl rfl rfl ?_
          refine AO.yld _ (Yld.fieldAddr Try.underlying31 rfl rfl Try.sizeOf9 rfl rfl rfl) rfl rfl rfl ?_
          refine AO.yld _ (Yld.load Try.isAgg9 rfl rfl) rfl rfl rfl ?_
          refine AO.yld _ (Yld.call rfl rfl Try.call16 rfl rfl rfl (impl_sizeOf_c (by first | assumption | omega)) rfl) rfl rfl rfl ?_
          refine AO.yld _ (Yld.int rfl rfl rfl) rfl rfl rfl ?_
          refine AO.yld _ (Yld.move rfl) rfl rfl rfl ?_
          refine AO.splitAt 27 _ rfl (fun s27 => ?_) (fun s27 => ?_)
          · -- s27 True
            refine AO.skipF rfl rfl rfl rfl rfl ?_
            refine AO.skipF rfl rfl rfl rfl rfl ?_
            refine AO.skipF rfl rfl rfl rfl rfl ?_
            refine AO.skipF rfl rfl rfl rfl rfl ?_
            refine AO.yld _ (Yld.pickT rfl rfl) rfl rfl rfl ?_
            refine AO.yld _ (Yld.move rfl) rfl rfl rfl ?_
            refine AO.skipF rfl rfl rfl rfl rfl ?_
            refine AO.skipF rfl rfl rfl rfl rfl ?_
            refine AO.skipF rfl rfl rfl rfl rfl ?_
            refine AO.skipU rfl rfl rfl rfl rfl ?_
            refine AO.skipU rfl rfl rfl rfl rfl ?_
            refine AO.skipU rfl rfl rfl rfl rfl ?_
            refine AO.skipU rfl rfl rfl rfl rfl ?_
            refine AO.skipU rfl rfl rfl rfl rfl ?_
            refine AO.skipU rfl rfl rfl rfl rfl ?_
            refine AO.skipU rfl rfl rfl rfl rfl ?_
            refine AO.skipU rfl rfl rfl rfl rfl ?_
            refine AO.skipU rfl rfl rfl rfl rfl ?_
            refine AO.skipF rfl rfl rfl rfl rfl ?_
            refine AO.yld _ (Yld.pickT rfl rfl) rfl rfl rfl ?_
            refine AO.nil ?_
            refine AC.condT rfl ?_
            refine AC.seq ?_
            refine AC.region ?_
            refine AO.yld _ (Yld.assign rfl) rfl rfl rfl ?_
            refine AO.nil ?_
            refine Pure.ret Try.results10 (RVs.cons (RV.tmp rfl) RVs.nil) rfl ?_
            first
              | (refine cb ?_; unfold okNeeds; rw [hok.1, allI_take hJ.2, decide_eq_true hok.2]; rfl)
              | (refine cb ?_; unfold okNeeds; rw [allI_miss hx (by simp only [okNeed, hz]; first | grind | (simp_all; done)), Bool.false_and, Bool.and_false])
              | (refine cb ?_; unfold okNeeds; rw [show okMedias ms = false by simpa using s10, Bool.false_and])
              | (refine cb ?_; unfold okNeeds; have h : ¬ xs.length ≤ 16 := (by have h := c14; simp only [hM] at h; simp at h; omega); rw [decide_eq_false h, Bool.and_false, Bool.and_false])
          · -- s27 False
            refine AO.yldG _ (Yld.fieldAddr Try.underlying31 rfl rfl Try.sizeOf2 rfl rfl rfl) rfl rfl rfl rfl rfl ?_
            refine AO.yldG _ (Yld.load Try.isAgg2 rfl rfl) rfl rfl rfl rfl rfl ?_
            refine AO.yldG _ (Yld.call rfl rfl Try.call19 rfl rfl rfl (impl_within_c) rfl) rfl rfl rfl rfl rfl ?_
            refine AO.yldG _ (Yld.not rfl) rfl rfl rfl rfl rfl ?_
            refine AO.yld _ (Yld.pickF rfl rfl) rfl rfl rfl ?_
            refine AO.yld _ (Yld.move rfl) rfl rfl rfl ?_
            refine AO.splitAt 33 _ rfl (fun s33 => ?_) (fun s33 => ?_)
            · -- s33 True
              refine AO.skipF rfl rfl rfl rfl rfl ?_
              refine AO.skipF rfl rfl rfl rfl rfl ?_
              refine AO.skipF rfl rfl rfl rfl rfl ?_
              refine AO.skipU rfl rfl rfl rfl rfl ?_
              refine AO.skipU rfl rfl rfl rfl rfl ?_
              refine AO.skipU rfl rfl rfl rfl rfl ?_
              refine AO.skipU rfl rfl rfl rfl rfl ?_
              refine AO.skipU rfl rfl rfl rfl rfl ?_
              refine AO.skipU rfl rfl rfl rfl rfl ?_
              refine AO.skipU rfl rfl rfl rfl rfl ?_
              refine AO.skipU rfl rfl rfl rfl rfl ?_
              refine AO.skipU rfl rfl rfl rfl rfl ?_
              refine AO.skipF rfl rfl rfl rfl rfl ?_
              refine AO.yld _ (Yld.pickT rfl rfl) rfl rfl rfl ?_
              refine AO.nil ?_
              refine AC.condT rfl ?_
              refine AC.seq ?_
              refine AC.region ?_
              refine AO.yld _ (Yld.assign rfl) rfl rfl rfl ?_
              refine AO.nil ?_
              refine Pure.ret Try.results10 (RVs.cons (RV.tmp rfl) RVs.nil) rfl ?_
              first
                | (refine cb ?_; unfold okNeeds; rw [hok.1, allI_take hJ.2, decide_eq_true hok.2]; rfl)
                | (refine cb ?_; unfold okNeeds; rw [allI_miss hx (by simp only [okNeed, hz]; first | grind | (simp_all; done)), Bool.false_and, Bool.and_false])
                | (refine cb ?_; unfold okNeeds; rw [show okMedias ms = false by simpa using s10, Bool.false_and])
                | (refine cb ?_; unfold okNeeds; have h : ¬ xs.length ≤ 16 := (by have h := c14; simp only [hM] at h; simp at h; omega); rw [decide_eq_false h, Bool.and_false, Bool.and_false])
            · -- s33 False
              refine AO.yldG _ (Yld.move rfl) rfl rfl rfl rfl rfl ?_
              refine AO.yldG _ (Yld.int rfl rfl rfl) rfl rfl rfl rfl rfl ?_
              refine AO.yldG _ (Yld.move rfl) rfl rfl rfl rfl rfl ?_
              refine AO.splitAt 36 _ rfl (fun s36 => ?_) (fun s36 => ?_)
              · -- s36 True
                have hk0 : 0 < k := by simpa using s36
                refine AO.yldG _ (Yld.move rfl) rfl rfl rfl rfl rfl ?_
                refine AO.yldG _ (Yld.move rfl) rfl rfl rfl rfl rfl ?_
                refine AO.yldG _ (Yld.sub rfl rfl (by omega) (by omega)) rfl rfl rfl rfl rfl ?_
                refine AO.yldG _ (Yld.indexSl Try.underlying26 Try.sizeOf31 rfl rfl hrowz (by omega)) rfl rfl rfl rfl rfl ?_
                refine AO.yldG _ (Yld.fieldAddr Try.underlying31 rfl rfl Try.sizeOf2 rfl rfl rfl) rfl rfl rfl rfl rfl ?_
                refine AO.yldG _ (Yld.load Try.isAgg2 rfl rfl) rfl rfl rfl rfl rfl ?_
                refine AO.yldG _ (Yld.fieldAddr Try.underlying31 rfl rfl Try.sizeOf2 rfl rfl rfl) rfl rfl rfl rfl rfl ?_
                refine AO.yldG _ (Yld.load Try.isAgg2 rfl rfl) rfl rfl rfl rfl rfl ?_
                refine AO.yldG _ (Yld.int rfl rfl rfl) rfl rfl rfl rfl rfl ?_
                refine AO.yldG _ (Yld.pickT rfl rfl) rfl rfl rfl rfl rfl ?_
                refine AO.yld _ (Yld.pickF rfl rfl) rfl rfl rfl ?_
                refine AO.nil ?_
                refine AC.cond _ rfl (fun c47 => ?_) (fun c47 => ?_)
                · -- c47 True
                  refine AC.seq ?_
                  refine AC.region ?_
                  refine AO.yld _ (Yld.assign rfl) rfl rfl rfl ?_
                  refine AO.nil ?_
                  refine Pure.ret Try.results10 (RVs.cons (RV.tmp rfl) RVs.nil) rfl ?_
                  first
                    | (refine cb ?_; unfold okNeeds; rw [hok.1, allI_take hJ.2, decide_eq_true hok.2]; rfl)
                    | (refine cb ?_; unfold okNeeds; rw [allI_miss hx (by simp only [okNeed, hz]; first | grind | (simp_all; done)), Bool.false_and, Bool.and_false])
                    | (refine cb ?_; unfold okNeeds; rw [show okMedias ms = false by simpa using s10, Bool.false_and])
                    | (refine cb ?_; unfold okNeeds; have h : ¬ xs.length ≤ 16 := (by have h := c14; simp only [hM] at h; simp at h; omega); rw [decide_eq_false h, Bool.and_false, Bool.and_false])
                · -- c47 False
                  refine AC.skip ?_
                  refine AC.seq ?_
                  refine AC.region ?_
                  refine AO.yld _ (Yld.move rfl) rfl rfl rfl ?_
                  refine AO.yld _ (Yld.move rfl) rfl rfl rfl ?_
                  refine AO.yld _ (Yld.sliceTo (h := k) Try.underlying26 Try.sizeOf31 rfl rfl (by omega) (by omega)) rfl rfl rfl ?_
                  refine AO.yld _ (Yld.makeFunc rfl) rfl rfl rfl ?_
                  refine AO.yld _ (Yld.call rfl rfl Try.call20 rfl rfl rfl (containsFuncNeed_c (xs := xs.take k) (p := nameIs x.name) (by simp only [List.length_take]; omega) Try.call21 (fun y hy => validNeeds1_c)) rfl) rfl rfl rfl ?_
                  refine AO.nil ?_
                  refine AC.cond _ rfl (fun c52 => ?_) (fun c52 => ?_)
                  · -- c52 True
                    refine AC.seq ?_
                    refine AC.region ?_
                    refine AO.yld _ (Yld.assign rfl) rfl rfl rfl ?_
                    refine AO.nil ?_
                    refine Pure.ret Try.results10 (RVs.cons (RV.tmp rfl) RVs.nil) rfl ?_
                    first
                      | (refine cb ?_; unfold okNeeds; rw [hok.1, allI_take hJ.2, decide_eq_true hok.2]; rfl)
                      | (refine cb ?_; unfold okNeeds; rw [allI_miss hx (by simp only [okNeed, hz]; first | grind | (simp_all; done)), Bool.false_and, Bool.and_false])
                      | (refine cb ?_; unfold okNeeds; rw [show okMedias ms = false by simpa using s10, Bool.false_and])
                      | (refine cb ?_; unfold okNeeds; have h : ¬ xs.length ≤ 16 := (by have h := c14; simp only [hM] at h; simp at h; omega); rw [decide_eq_false h, Bool.and_false, Bool.and_false])
                  · -- c52 False
                    refine AC.skip ?_
                    refine AC.mark ?_
                    refine AC.region ?_
                    refine AO.yld _ (Yld.add rfl rfl (by omega) (by omega)) rfl rfl rfl ?_
                    refine AO.yld _ (Yld.move rfl) rfl rfl rfl ?_
                    refine AO.nil ?_
                    refine AC.back ⟨k + 1, ?_, ?_, ⟨?_, trivial⟩, trivial, ⟨rfl, rfl, rfl, rfl, trivial⟩, trivial⟩
                    · exact ⟨hk, by rw [allITo_succ hx, hJ.2, Bool.true_and]; exact (by simp only [okNeed, hz]; first | grind | (simp_all; done))⟩
                    · omega
                    · rfl
              · -- s36 False
                refine AO.skipT rfl rfl rfl rfl rfl ?_
                refine AO.skipT rfl rfl rfl rfl rfl ?_
                refine AO.skipT rfl rfl rfl rfl rfl ?_
                refine AO.skipT rfl rfl rfl rfl rfl ?_
                refine AO.skipT rfl rfl rfl rfl rfl ?_
                refine AO.skipT rfl rfl rfl rfl rfl ?_
                refine AO.skipT rfl rfl rfl rfl rfl ?_
                refine AO.skipT rfl rfl rfl rfl rfl ?_
                refine AO.skipT rfl rfl rfl rfl rfl ?_
                refine AO.yldG _ (Yld.pickF rfl rfl) rfl rfl rfl rfl rfl ?_
                refine AO.yld _ (Yld.pickF rfl rfl) rfl rfl rfl ?_
                refine AO.nil ?_
                refine AC.condF rfl ?_
                refine AC.skip ?_
                refine AC.seq ?_
                refine AC.region ?_
                refine AO.yld _ (Yld.move rfl) rfl rfl rfl ?_
                refine AO.yld _ (Yld.move rfl) rfl rfl rfl ?_
                refine AO.yld _ (Yld.sliceTo (h := k) Try.underlying26 Try.sizeOf31 rfl rfl (by omega) (by omega)) rfl rfl rfl ?_
                refine AO.yld _ (Yld.makeFunc rfl) rfl rfl rfl ?_
                refine AO.yld _ (Yld.call rfl rfl Try.call20 rfl rfl rfl (containsFuncNeed_c (xs := xs.take k) (p := nameIs x.name) (by simp only [List.length_take]; omega) Try.call21 (fun y hy => validNeeds1_c)) rfl) rfl rfl rfl ?_
                refine AO.nil ?_
                refine AC.cond _ rfl (fun c52 => ?_) (fun c52 => ?_)
                · -- c52 True
                  refine AC.seq ?_
                  refine AC.region ?_
                  refine AO.yld _ (Yld.assign rfl) rfl rfl rfl ?_
                  refine AO.nil ?_
                  refine Pure.ret Try.results10 (RVs.cons (RV.tmp rfl) RVs.nil) rfl ?_
                  first
                    | (refine cb ?_; unfold okNeeds; rw [hok.1, allI_take hJ.2, decide_eq_true hok.2]; rfl)
                    | (refine cb ?_; unfold okNeeds; rw [allI_miss hx (by simp only [okNeed, hz]; first | grind | (simp_all; done)), Bool.false_and, Bool.and_false])
                    | (refine cb ?_; unfold okNeeds; rw [show okMedias ms = false by simpa using s10, Bool.false_and])
                    | (refine cb ?_; unfold okNeeds; have h : ¬ xs.length ≤ 16 := (by have h := c14; simp only [hM] at h; simp at h; omega); rw [decide_eq_false h, Bool.and_false, Bool.and_false])
                · -- c52 False
                  refine AC.skip ?_
                  refine AC.mark ?_
                  refine AC.region ?_
                  refine AO.yld _ (Yld.add rfl rfl (by omega) (by omega)) rfl rfl rfl ?_
                  refine AO.yld _ (Yld.move rfl) rfl rfl rfl ?_
                  refine AO.nil ?_
                  refine AC.back ⟨k + 1, ?_, ?_, ⟨?_, trivial⟩, trivial, ⟨rfl, rfl, rfl, rfl, trivial⟩, trivial⟩
                  · exact ⟨hk, by rw [allITo_succ hx, hJ.2, Bool.true_and]; exact (by simp only [okNeed, hz]; first | grind | (simp_all; done))⟩
                  · omega
                  · rfl
        · -- c18 False
          obtain rfl : k = xs.length := by have := ge_of_decM c18; omega
          refine AC.exit rfl ?_
          refine AC.seq ?_
          refine AC.region ?_
          refine AO.yld _ (Yld.assign rfl) rfl rfl rfl ?_
          refine AO.nil ?_
          refine Pure.ret Try.results10 (RVs.cons (RV.tmp rfl) RVs.nil) rfl ?_
          first
            | (refine cb ?_; unfold okNeeds; rw [hok.1, allI_take hJ.2, decide_eq_true hok.2]; rfl)
            | (refine cb ?_; unfold okNeeds; rw [allI_miss hx (by simp only [okNeed, hz]; first | grind | (simp_all; done)), Bool.false_and, Bool.and_false])
            | (refine cb ?_; unfold okNeeds; rw [show okMedias ms = false by simpa using s10, Bool.false_and])
            | (refine cb ?_; unfold okNeeds; have h : ¬ xs.length ≤ 16 := (by have h := c14; simp only [hM] at h; simp at h; omega); rw [decide_eq_false h, Bool.and_false, Bool.and_false])

theorem impl_checkNeeds_c {ms xs : List NV} (hm : ms.length ≤ 1048576) (hms : ∀ x ∈ ms, x.name.length ≤ 1048576) (hn : xs.length ≤ 1048576) (hs : ∀ x ∈ xs, x.name.length ≤ 1048576) {b : Int} :
    Pure Try.prog 14 [.sl 2 (ms.map encNV), .sl 2 (xs.map encNV), .v (.int .i64 b)] (.v (.int .i64 (askNeeds ms xs b))) := by
  refine Pure.intro Try.func14 rfl Try.ntmps14 rfl rfl (fun w => ?_)
  refine AC.seq ?_
  refine AC.region ?_
  refine AO.yld _ (Yld.assign rfl) rfl rfl rfl ?_
  refine AO.nil ?_
  refine AC.seq ?_
  refine AC.block ?_
  refine AC.seq ?_
  refine AC.region ?_
  refine AO.yld _ (Yld.move rfl) rfl rfl rfl ?_
  refine AO.yld _ (Yld.move rfl) rfl rfl rfl ?_
  refine AO.yld _ (Yld.call rfl rfl Try.call10 rfl rfl rfl (impl_ValidNeeds_c (by first | assumption | omega) (by assumption) (by first | assumption | omega) (by assumption)) rfl) rfl rfl rfl ?_
  refine AO.yld _ (Yld.not rfl) rfl rfl rfl ?_
  refine AO.yld _ (Yld.assign rfl) rfl rfl rfl ?_
  refine AO.nil ?_
  refine AC.cond _ rfl (fun c7 => ?_) (fun c7 => ?_)
  · -- c7 True
    refine AC.seq ?_
    refine AC.region ?_
    refine AO.yld _ (Yld.assign rfl) rfl rfl rfl ?_
    refine AO.nil ?_
    refine Pure.ret Try.results14 (RVs.cons (RV.tmp rfl) RVs.nil) rfl ?_
    refine ci ?_; unfold askNeeds; first | (simp_all; done) | grind
  · -- c7 False
    refine AC.seq ?_
    refine AC.region ?_
    refine AO.yld _ (Yld.move rfl) rfl rfl rfl ?_
    refine AO.yld _ (Yld.call rfl rfl Try.call19 rfl rfl rfl (impl_within_c) rfl) rfl rfl rfl ?_
    refine AO.yld _ (Yld.not rfl) rfl rfl rfl ?_
    refine AO.yld _ (Yld.assign rfl) rfl rfl rfl ?_
    refine AO.nil ?_
    refine AC.cond _ rfl (fun c12 => ?_) (fun c12 => ?_)
    · -- c12 True
      refine AC.seq ?_
      refine AC.region ?_
      refine AO.yld _ (Yld.assign rfl) rfl rfl rfl ?_
      refine AO.nil ?_
      refine Pure.ret Try.results14 (RVs.cons (RV.tmp rfl) RVs.nil) rfl ?_
      refine ci ?_; unfold askNeeds; first | (simp_all; done) | grind
    · -- c12 False
      refine AC.skip ?_
      refine AC.mark ?_
      refine AC.seq ?_
      refine AC.region ?_
      refine AO.yld _ (Yld.assign rfl) rfl rfl rfl ?_
      refine AO.nil ?_
      refine Pure.ret Try.results14 (RVs.cons (RV.tmp rfl) RVs.nil) rfl ?_
      refine ci ?_; unfold askNeeds; first | (simp_all; done) | grind

theorem impl_lateness_c {ms xs : List NV} {b : Int} (hn : xs.length ≤ 1048576) (hok : okNeeds ms xs = true) (hb : 1 ≤ b ∧ b ≤ 100000) (hm : ms.length ≤ 1048576) :
    Pure Try.prog 17 [.sl 2 (ms.map encNV), .sl 2 (xs.map encNV), .v (.int .i64 b)] (.v (.int .i64 (lateTo ms xs b xs.length))) := by
  refine Pure.intro Try.func17 rfl Try.ntmps17 rfl rfl (fun w => ?_)
  refine AC.seq ?_
  refine AC.region ?_
  refine AO.yld _ (Yld.assign rfl) rfl rfl rfl ?_
  refine AO.nil ?_
  refine AC.seq ?_
  refine AC.region ?_
  refine AO.yld _ (Yld.assign rfl) rfl rfl rfl ?_
  refine AO.nil ?_
  refine AC.seq ?_
  refine AC.region ?_
  refine AO.yld _ (Yld.assign rfl) rfl rfl rfl ?_
  refine AO.nil ?_
  refine AC.seq ?_
  refine AC.seq ?_
  refine AC.region ?_
  refine AO.yld _ (Yld.move rfl) rfl rfl rfl ?_
  refine AO.yld _ (Yld.len Try.underlying26 rfl rfl) rfl rfl rfl ?_
  refine AO.yld _ (Yld.move rfl) rfl rfl rfl ?_
  refine AO.nil ?_
  refine AC.block ?_
  refine AC.loopC [(0, _), (2, _), (6, _), (11, _), (12, _)] [] (fun (k : Nat) => [(13, .p (.v (.int .i64 (k : Int)))), (7, .p (.v (.int .i64 (sumTo (loadT ms b) xs k)))), (8, .p (.v (.int .i64 (lateTo ms xs b k))))]) (fun (k : Nat) => []) (fun (k : Nat) => k ≤ xs.length) (fun (k : Nat) => xs.length - k) 0 ⟨rfl, rfl, rfl, rfl, rfl, trivial⟩ trivial ⟨rfl, rfl, rfl, trivial⟩ trivial ?_ (fun k hJ => ?_)
  · exact Nat.zero_le _
  · -- round
    refine AC.seq ?_
    refine AC.region ?_
    refine AO.yld _ (Yld.int rfl rfl rfl) rfl rfl rfl ?_
    refine AO.nil ?_
    refine AC.seq ?_
    refine AC.cond _ rfl (fun c14 => ?_) (fun c14 => ?_)
    · -- c14 True
      have hk := lt_of_decM c14
      obtain ⟨x, hx⟩ := get_some hk
      have hrow := map_row (enc := encNV) hx
      have hlx := loadT_lim (needs_ok hok).1 hb.1 x
      have hsl := lookup_lim (needs_ok hok).1 x.name
      have hsk := sums_lim (xs := xs) (needs_ok hok).1 hb.1 k
      have hsk1 := sums_lim (xs := xs) (needs_ok hok).1 hb.1 (k + 1)
      have hss := sumTo_succ (f := loadT ms b) hx
      have hld : loadT ms b x = (1000 * lookup ms x.name + b - 1) / b := rfl
      have hnl := need_lim (allI_at (needs_ok hok).2.1 hx)
      have hll := lateTo_lim hok hb.1 k
      have hl16 := (needs_ok hok).2.2
      refine AC.skip ?_
      refine AC.seq ?_
      refine AC.block ?_
      refine AC.seq ?_
      refine AC.region ?_
      refine AO.yld _ (Yld.indexSl Try.underlying26 Try.sizeOf31 rfl rfl hrow rfl) rfl rfl rfl ?_
      refine AO.yld _ (Yld.loadAgg Try.isAgg31 Try.sizeOf31 rfl rfl rfl rfl) rfl rfl rfl ?_
      refine AO.alloc 0 Try.zeroValue31 rfl rfl rfl ?_
      refine AO.store Try.sizeOf31 rfl rfl rfl rfl rfl rfl ?_
      refine AO.nil ?_
      refine AC.seq ?_
      refine AC.region ?_
      refine AO.yld _ (Yld.move rfl) rfl rfl rfl ?_
      refine AO.yld _ (Yld.move rfl) rfl rfl rfl ?_
      refine AO.yld _ (Yld.fieldAddr Try.underlying31 rfl rfl Try.sizeOf9 rfl rfl rfl) rfl rfl rfl ?_
      refine AO.yld _ (Yld.load Try.isAgg9 rfl rfl) rfl rfl rfl ?_
      refine AO.yld _ (Yld.call rfl rfl Try.call16 rfl rfl rfl (impl_sizeOf_c (by first | assumption | omega)) rfl) rfl rfl rfl ?_
      refine AO.yld _ (Yld.mul rfl rfl (by omega) (by omega)) rfl rfl rfl ?_
      refine AO.yld _ (Yld.move rfl) rfl rfl rfl ?_
      refine AO.yld _ (Yld.call rfl rfl Try.call15 rfl rfl rfl (impl_quotientUp_c (by omega) (by omega) (by omega)) rfl) rfl rfl rfl ?_
      refine AO.yld _ (Yld.add rfl rfl (by omega) (by omega)) rfl rfl rfl ?_
      refine AO.yld _ (Yld.assign rfl) rfl rfl rfl ?_
      refine AO.nil ?_
      refine AC.region ?_
      refine AO.yld _ (Yld.move rfl) rfl rfl rfl ?_
      refine AO.yld _ (Yld.move rfl) rfl rfl rfl ?_
      refine AO.yld _ (Yld.fieldAddr Try.underlying31 rfl rfl Try.sizeOf2 rfl rfl rfl) rfl rfl rfl ?_
      refine AO.yld _ (Yld.load Try.isAgg2 rfl rfl) rfl rfl rfl ?_
      refine AO.yld _ (Yld.sub rfl rfl (by omega) (by omega)) rfl rfl rfl ?_
      refine AO.yld _ (Yld.max2 rfl rfl) rfl rfl rfl ?_
      refine AO.yld _ (Yld.assign rfl) rfl rfl rfl ?_
      refine AO.nil ?_
      refine AC.mark ?_
      refine AC.region ?_
      refine AO.yld _ (Yld.add rfl rfl (by omega) (by omega)) rfl rfl rfl ?_
      refine AO.yld _ (Yld.move rfl) rfl rfl rfl ?_
      refine AO.nil ?_
      refine AC.back ⟨k + 1, ?_, ?_, ⟨?_, ?_, ?_, trivial⟩, trivial, ⟨rfl, rfl, rfl, rfl, rfl, trivial⟩, trivial⟩
      · exact hk
      · omega
      · rfl
      · show some (AV.p (PV.v (Value.int IntKind.i64 _))) = _; rw [sumTo_succ hx]; rfl
      · show some (AV.p (PV.v (Value.int IntKind.i64 _))) = _; rw [lateTo_succ hx, sumTo_succ hx]; rfl
    · -- c14 False
      obtain rfl : k = xs.length := by have := ge_of_decM c14; omega
      refine AC.exit rfl ?_
      refine AC.seq ?_
      refine AC.region ?_
      refine AO.yld _ (Yld.move rfl) rfl rfl rfl ?_
      refine AO.yld _ (Yld.assign rfl) rfl rfl rfl ?_
      refine AO.nil ?_
      refine Pure.ret Try.results17 (RVs.cons (RV.tmp rfl) RVs.nil) rfl ?_
      rfl

theorem impl_LatenessOf_c {ms xs : List NV} (hm : ms.length ≤ 1048576) (hms : ∀ x ∈ ms, x.name.length ≤ 1048576) (hn : xs.length ≤ 1048576) (hs : ∀ x ∈ xs, x.name.length ≤ 1048576) {b : Int} :
    Pure Try.prog 8 [.sl 2 (ms.map encNV), .sl 2 (xs.map encNV), .v (.int .i64 b)] (.tup [.v (.int .i64 (latenessOf ms xs b).1), .v (.int .i64 (latenessOf ms xs b).2)]) := by
  have hM : (xs.map encNV).length = xs.length := List.length_map ..
  refine Pure.intro Try.func8 rfl Try.ntmps8 rfl rfl (fun w => ?_)
  refine AC.seq ?_
  refine AC.region ?_
  refine AO.yld _ (Yld.assign rfl) rfl rfl rfl ?_
  refine AO.yld _ (Yld.assign rfl) rfl rfl rfl ?_
  refine AO.nil ?_
  refine AC.seq ?_
  refine AC.seq ?_
  refine AC.region ?_
  refine AO.yld _ (Yld.move rfl) rfl rfl rfl ?_
  refine AO.yld _ (Yld.move rfl) rfl rfl rfl ?_
  refine AO.yld _ (Yld.move rfl) rfl rfl rfl ?_
  refine AO.yld _ (Yld.call rfl rfl Try.call14 rfl rfl rfl (impl_checkNeeds_c (by first | assumption | omega) (by assumption) (by first | assumption | omega) (by assumption)) rfl) rfl rfl rfl ?_
  refine AO.yld _ (Yld.assign rfl) rfl rfl rfl ?_
  refine AO.nil ?_
  refine AC.seq ?_
  refine AC.region ?_
  refine AO.yld _ (Yld.move rfl) rfl rfl rfl ?_
  refine AO.yld _ (Yld.int rfl rfl rfl) rfl rfl rfl ?_
  refine AO.nil ?_
  refine AC.cond _ rfl (fun c14 => ?_) (fun c14 => ?_)
  · -- c14 True
    refine AC.seq ?_
    refine AC.region ?_
    refine AO.yld _ (Yld.move rfl) rfl rfl rfl ?_
    refine AO.yld _ (Yld.assign rfl) rfl rfl rfl ?_
    refine AO.yld _ (Yld.assign rfl) rfl rfl rfl ?_
    refine AO.nil ?_
    refine Pure.retT Try.results8 (RVs.cons (RV.tmp rfl) (RVs.cons (RV.tmp rfl) RVs.nil)) rfl ?_
    first | (simp_all [latenessOf]; done) | (unfold latenessOf; simp only [if_pos hk0, if_neg hl0]) | (unfold latenessOf; simp only [if_pos hk0, if_pos hl0])
  · -- c14 False
    have hk0 : askNeeds ms xs b = 0 := by first | (simpa using c14) | (exact absurd c14 (by decide))
    obtain ⟨hok, hb⟩ := ask_needs hk0
    refine AC.skip ?_
    refine AC.seq ?_
    refine AC.seq ?_
    refine AC.region ?_
    refine AO.yld _ (Yld.move rfl) rfl rfl rfl ?_
    refine AO.yld _ (Yld.len Try.underlying26 rfl rfl) rfl rfl rfl ?_
    refine AO.yld _ (Yld.int rfl rfl rfl) rfl rfl rfl ?_
    refine AO.nil ?_
    refine AC.cond _ rfl (fun c18 => ?_) (fun c18 => ?_)
    · -- c18 True
      have hl0 : xs.length = 0 := by have h := c18; rw [hM] at h; simpa using h
      refine AC.seq ?_
      refine AC.region ?_
      refine AO.yld _ (Yld.assign rfl) rfl rfl rfl ?_
      refine AO.yld _ (Yld.assign rfl) rfl rfl rfl ?_
      refine AO.nil ?_
      refine Pure.retT Try.results8 (RVs.cons (RV.tmp rfl) (RVs.cons (RV.tmp rfl) RVs.nil)) rfl ?_
      first | (simp_all [latenessOf]; done) | (unfold latenessOf; simp only [if_pos hk0, if_neg hl0]) | (unfold latenessOf; simp only [if_pos hk0, if_pos hl0])
    · -- c18 False
      have hl0 : ¬ xs.length = 0 := by have h := c18; rw [hM] at h; simpa using h
      refine AC.skip ?_
      refine AC.seq ?_
      refine AC.region ?_
      refine AO.yld _ (Yld.move rfl) rfl rfl rfl ?_
      refine AO.yld _ (Yld.move rfl) rfl rfl rfl ?_
      refine AO.yld _ (Yld.move rfl) rfl rfl rfl ?_
      refine AO.yld _ (Yld.call rfl rfl Try.call17 rfl rfl rfl (impl_lateness_c (by first | assumption | omega) (by assumption) (by omega) (by first | assumption | omega)) rfl) rfl rfl rfl ?_
      refine AO.yld _ (Yld.assign rfl) rfl rfl rfl ?_
      refine AO.yld _ (Yld.assign rfl) rfl rfl rfl ?_
      refine AO.nil ?_
      refine Pure.retT Try.results8 (RVs.cons (RV.tmp rfl) (RVs.cons (RV.tmp rfl) RVs.nil)) rfl ?_
      first | (simp_all [latenessOf]; done) | (unfold latenessOf; simp only [if_pos hk0, if_neg hl0]) | (unfold latenessOf; simp only [if_pos hk0, if_pos hl0])

theorem impl_LeastBandwidth_c {ms xs : List NV} (hm : ms.length ≤ 1048576) (hms : ∀ x ∈ ms, x.name.length ≤ 1048576) (hn : xs.length ≤ 1048576) (hs : ∀ x ∈ xs, x.name.length ≤ 1048576) :
    Pure Try.prog 11 [.sl 2 (ms.map encNV), .sl 2 (xs.map encNV)] (.tup [.v (.int .i64 (leastBandwidth ms xs).1), .v (.int .i64 (leastBandwidth ms xs).2)]) := by
  have hM : (xs.map encNV).length = xs.length := List.length_map ..
  refine Pure.intro Try.func11 rfl Try.ntmps11 rfl rfl (fun w => ?_)
  refine AC.seq ?_
  refine AC.region ?_
  refine AO.yld _ (Yld.assign rfl) rfl rfl rfl ?_
  refine AO.yld _ (Yld.assign rfl) rfl rfl rfl ?_
  refine AO.nil ?_
  refine AC.seq ?_
  refine AC.seq ?_
  refine AC.region ?_
  refine AO.yld _ (Yld.move rfl) rfl rfl rfl ?_
  refine AO.yld _ (Yld.move rfl) rfl rfl rfl ?_
  refine AO.yld _ (Yld.call rfl rfl Try.call10 rfl rfl rfl (impl_ValidNeeds_c (by first | assumption | omega) (by assumption) (by first | assumption | omega) (by assumption)) rfl) rfl rfl rfl ?_
  refine AO.yld _ (Yld.not rfl) rfl rfl rfl ?_
  refine AO.nil ?_
  refine AC.cond _ rfl (fun c12 => ?_) (fun c12 => ?_)
  · -- c12 True
    have hno : ¬ okNeeds ms xs = true := by intro h9; obtain ⟨h1, h2, h3⟩ := needs_ok h9; simp_all
    refine AC.seq ?_
    refine AC.region ?_
    refine AO.yld _ (Yld.assign rfl) rfl rfl rfl ?_
    refine AO.yld _ (Yld.assign rfl) rfl rfl rfl ?_
    refine AO.nil ?_
    refine Pure.retT Try.results11 (RVs.cons (RV.tmp rfl) (RVs.cons (RV.tmp rfl) RVs.nil)) rfl ?_
    first
      | (unfold leastBandwidth; simp only [if_neg hno])
      | (rw [least_nil hok (by have h := c15; rw [hM] at h; simpa using h)])
      | (rw [least_bad hok (by rw [← hr]; exact late_gt c35)])
      | (rw [least_good hok (by rw [← hr]; exact late_ngt c35), ← hr])
  · -- c12 False
    have hok : okNeeds ms xs = true := by first | (simpa using c12) | (unfold okNeeds; simp_all; done) | (unfold okNeeds; grind)
    have hokm := (needs_ok hok).1
    have hl16 := (needs_ok hok).2.2
    refine AC.skip ?_
    refine AC.seq ?_
    refine AC.seq ?_
    refine AC.region ?_
    refine AO.yld _ (Yld.move rfl) rfl rfl rfl ?_
    refine AO.yld _ (Yld.len Try.underlying26 rfl rfl) rfl rfl rfl ?_
    refine AO.yld _ (Yld.int rfl rfl rfl) rfl rfl rfl ?_
    refine AO.nil ?_
    refine AC.cond _ rfl (fun c15 => ?_) (fun c15 => ?_)
    · -- c15 True
      refine AC.seq ?_
      refine AC.region ?_
      refine AO.yld _ (Yld.assign rfl) rfl rfl rfl ?_
      refine AO.yld _ (Yld.assign rfl) rfl rfl rfl ?_
      refine AO.nil ?_
      refine Pure.retT Try.results11 (RVs.cons (RV.tmp rfl) (RVs.cons (RV.tmp rfl) RVs.nil)) rfl ?_
      first
        | (unfold leastBandwidth; simp only [if_neg hno])
        | (rw [least_nil hok (by have h := c15; rw [hM] at h; simpa using h)])
        | (rw [least_bad hok (by rw [← hr]; exact late_gt c35)])
        | (rw [least_good hok (by rw [← hr]; exact late_ngt c35), ← hr])
    · -- c15 False
      refine AC.skip ?_
      refine AC.seq ?_
      refine AC.region ?_
      refine AO.yld _ (Yld.assign rfl) rfl rfl rfl ?_
      refine AO.yld _ (Yld.assign rfl) rfl rfl rfl ?_
      refine AO.nil ?_
      refine AC.seq ?_
      refine AC.block ?_
      refine AC.loopC2 [(0, _), (1, _), (4, _), (5, _)] [] (fun (l h : Int) => [(6, .p (.v (.int .i64 l))), (7, .p (.v (.int .i64 h)))]) (fun (l h : Int) => []) (fun (l h : Int) => halve (inTime ms xs) l h = halve (inTime ms xs) 1 100000 ∧ 1 ≤ l ∧ l ≤ h ∧ h ≤ 100000) (fun (l h : Int) => (h - l).toNat) 1 100000 ⟨rfl, rfl, rfl, rfl, trivial⟩ trivial ⟨rfl, rfl, trivial⟩ trivial ?_ (fun l h hJ => ?_)
      · exact ⟨rfl, by omega, by omega, by omega⟩
      · -- round
        refine AC.seq ?_
        refine AC.seq ?_
        refine AC.region ?_
        refine AO.yld _ (Yld.move rfl) rfl rfl rfl ?_
        refine AO.yld _ (Yld.move rfl) rfl rfl rfl ?_
        refine AO.yld _ (Yld.int rfl rfl rfl) rfl rfl rfl ?_
        refine AO.nil ?_
        refine AC.cond _ rfl (fun c18 => ?_) (fun c18 => ?_)
        · -- c18 True
          have hlh : l < h := by simpa using c18
          have hq : (l + h).tdiv 2 = (l + h) / 2 := Int.tdiv_eq_ediv_of_nonneg (by omega)
          refine AC.skip ?_
          refine AC.block ?_
          refine AC.seq ?_
          refine AC.region ?_
          refine AO.yld _ (Yld.move rfl) rfl rfl rfl ?_
          refine AO.yld _ (Yld.move rfl) rfl rfl rfl ?_
          refine AO.yld _ (Yld.add rfl rfl (by omega) (by omega)) rfl rfl rfl ?_
          refine AO.yld _ (Yld.quoP rfl rfl (by omega) (by omega) (by omega)) rfl rfl rfl ?_
          refine AO.yld _ (Yld.assign rfl) rfl rfl rfl ?_
          refine AO.nil ?_
          refine AC.seq ?_
          refine AC.region ?_
          refine AO.yld _ (Yld.move rfl) rfl rfl rfl ?_
          refine AO.yld _ (Yld.move rfl) rfl rfl rfl ?_
          refine AO.yld _ (Yld.move rfl) rfl rfl rfl ?_
          refine AO.yld _ (Yld.call rfl rfl Try.call17 rfl rfl rfl (impl_lateness_c (by first | assumption | omega) (by assumption) (by omega) (by first | assumption | omega)) rfl) rfl rfl rfl ?_
          refine AO.yld _ (Yld.int rfl rfl rfl) rfl rfl rfl ?_
          refine AO.nil ?_
          refine AC.cond _ rfl (fun c27 => ?_) (fun c27 => ?_)
          · -- c27 True
            have hT : inTime ms xs ((l + h) / 2) = true := by have h9 := c27; rw [hq] at h9; exact late_in h9
            obtain ⟨nl, nh, hnl, hnh⟩ : ∃ a b : Int, a = l ∧ b = (l + h) / 2 := ⟨_, _, rfl, rfl⟩
            refine AC.region ?_
            refine AO.yld _ (Yld.move rfl) rfl rfl rfl ?_
            refine AO.yld _ (Yld.assign rfl) rfl rfl rfl ?_
            refine AO.nil ?_
            refine AC.mark ?_
            refine AC.back ⟨nl, nh, ?_, ?_, ⟨?_, ?_, trivial⟩, trivial, ⟨rfl, rfl, rfl, rfl, trivial⟩, trivial⟩
            · subst hnl hnh; first | exact ⟨(halve_T hlh hT).symm.trans hJ.1, by omega, by omega, by omega⟩ | exact ⟨(halve_F hlh hF).symm.trans hJ.1, by omega, by omega, by omega⟩
            · subst hnl hnh; omega
            · subst hnl hnh; first | rfl | (show some (AV.p (PV.v (Value.int IntKind.i64 _))) = _; rw [hq]; try rfl)
            · subst hnl hnh; first | rfl | (show some (AV.p (PV.v (Value.int IntKind.i64 _))) = _; rw [hq]; try rfl)
          · -- c27 False
            have hF : inTime ms xs ((l + h) / 2) = false := by have h9 := c27; rw [hq] at h9; exact late_out h9
            obtain ⟨nl, nh, hnl, hnh⟩ : ∃ a b : Int, a = (l + h) / 2 + 1 ∧ b = h := ⟨_, _, rfl, rfl⟩
            refine AC.region ?_
            refine AO.yld _ (Yld.move rfl) rfl rfl rfl ?_
            refine AO.yld _ (Yld.add rfl rfl (by omega) (by omega)) rfl rfl rfl ?_
            refine AO.yld _ (Yld.assign rfl) rfl rfl rfl ?_
            refine AO.nil ?_
            refine AC.mark ?_
            refine AC.back ⟨nl, nh, ?_, ?_, ⟨?_, ?_, trivial⟩, trivial, ⟨rfl, rfl, rfl, rfl, trivial⟩, trivial⟩
            · subst hnl hnh; first | exact ⟨(halve_T hlh hT).symm.trans hJ.1, by omega, by omega, by omega⟩ | exact ⟨(halve_F hlh hF).symm.trans hJ.1, by omega, by omega, by omega⟩
            · subst hnl hnh; omega
            · subst hnl hnh; first | rfl | (show some (AV.p (PV.v (Value.int IntKind.i64 _))) = _; rw [hq]; try rfl)
            · subst hnl hnh; first | rfl | (show some (AV.p (PV.v (Value.int IntKind.i64 _))) = _; rw [hq]; try rfl)
        · -- c18 False
          obtain rfl : l = h := by have h9 : ¬ l < h := (by simpa using c18); omega
          have hend := halve_end (p := inTime ms xs) (lo := l) (hi := l) (by omega)
          have hr : l = halve (inTime ms xs) 1 100000 := hend.symm.trans hJ.1
          refine AC.exit rfl ?_
          refine AC.seq ?_
          refine AC.seq ?_
          refine AC.region ?_
          refine AO.yld _ (Yld.move rfl) rfl rfl rfl ?_
          refine AO.yld _ (Yld.move rfl) rfl rfl rfl ?_
          refine AO.yld _ (Yld.move rfl) rfl rfl rfl ?_
          refine AO.yld _ (Yld.call rfl rfl Try.call17 rfl rfl rfl (impl_lateness_c (by first | assumption | omega) (by assumption) (by omega) (by first | assumption | omega)) rfl) rfl rfl rfl ?_
          refine AO.yld _ (Yld.int rfl rfl rfl) rfl rfl rfl ?_
          refine AO.nil ?_
          refine AC.cond _ rfl (fun c35 => ?_) (fun c35 => ?_)
          · -- c35 True
            refine AC.seq ?_
            refine AC.region ?_
            refine AO.yld _ (Yld.assign rfl) rfl rfl rfl ?_
            refine AO.yld _ (Yld.assign rfl) rfl rfl rfl ?_
            refine AO.nil ?_
            refine Pure.retT Try.results11 (RVs.cons (RV.tmp rfl) (RVs.cons (RV.tmp rfl) RVs.nil)) rfl ?_
            first
              | (unfold leastBandwidth; simp only [if_neg hno])
              | (rw [least_nil hok (by have h := c15; rw [hM] at h; simpa using h)])
              | (rw [least_bad hok (by rw [← hr]; exact late_gt c35)])
              | (rw [least_good hok (by rw [← hr]; exact late_ngt c35), ← hr])
          · -- c35 False
            refine AC.skip ?_
            refine AC.seq ?_
            refine AC.region ?_
            refine AO.yld _ (Yld.move rfl) rfl rfl rfl ?_
            refine AO.yld _ (Yld.assign rfl) rfl rfl rfl ?_
            refine AO.yld _ (Yld.assign rfl) rfl rfl rfl ?_
            refine AO.nil ?_
            refine Pure.retT Try.results11 (RVs.cons (RV.tmp rfl) (RVs.cons (RV.tmp rfl) RVs.nil)) rfl ?_
            first
              | (unfold leastBandwidth; simp only [if_neg hno])
              | (rw [least_nil hok (by have h := c15; rw [hM] at h; simpa using h)])
              | (rw [least_bad hok (by rw [← hr]; exact late_gt c35)])
              | (rw [least_good hok (by rw [← hr]; exact late_ngt c35), ← hr])

end Go.Proofs.Ytbbechcbdeknnaa
