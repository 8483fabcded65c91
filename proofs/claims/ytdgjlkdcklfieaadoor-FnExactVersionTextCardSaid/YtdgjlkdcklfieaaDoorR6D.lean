/- Contracts of functions of the program, each by a walk of its text in the calculus V. -/
import Derived.Test.YtdgjlkdcklfieaaDoorR6C
import Derived.Test.YtdgjlkdcklfieaaDoorD38
set_option linter.all false
set_option linter.unusedSimpArgs false
set_option linter.unnecessarySimpa false
set_option linter.unusedVariables false
namespace Go.Proofs.YtdgjlkdcklfieaaDoor
open Go Go.V

theorem spec_VersionText_c {x : Ver} (hg : VerGood x) :
    Pure Tryd.prog 36 [.agg (encVer x)] (.v (str (verText x))) := by
  obtain ⟨g1, g2, g3⟩ := hg
  refine Pure.intro Tryd.func36 rfl Tryd.ntmps36 rfl rfl (fun w => ?_)
  refine AC.seq ?_
  refine AC.region ?_
  refine AO.box 0 rfl rfl rfl rfl rfl ?_
  refine AO.yld _ (Yld.assign rfl) rfl rfl rfl ?_
  refine AO.nil ?_
  refine AC.seq ?_
  refine AC.seq ?_
  refine AC.region ?_
  refine AO.yld _ (Yld.fieldAddr Tryd.underlying74 rfl rfl Tryd.sizeOf2 rfl rfl rfl) rfl rfl rfl ?_
  refine AO.yld _ (Yld.load Tryd.isAgg2 rfl rfl) rfl rfl rfl ?_
  refine AO.yld _ (Yld.call rfl rfl Tryd.call97 rfl rfl rfl (spec_l00In_c) rfl) rfl rfl rfl ?_
  refine AO.yld _ (Yld.not rfl) rfl rfl rfl ?_
  refine AO.yld _ (Yld.move rfl) rfl rfl rfl ?_
  refine AO.splitAt 9 _ rfl (fun s9 => ?_) (fun s9 => ?_)
  · -- s9 True
    have hno : ¬ okVerT x = true := fun h => by obtain ⟨a1, a2, a3, a4⟩ := verT_lim h; have h9 := s9; simp only [Bool.not_eq_true', Bool.and_eq_false_iff, decide_eq_false_iff_not] at h9; omega
    refine AO.skipF rfl rfl rfl rfl rfl ?_
    refine AO.skipF rfl rfl rfl rfl rfl ?_
    refine AO.skipF rfl rfl rfl rfl rfl ?_
    refine AO.skipF rfl rfl rfl rfl rfl ?_
    refine AO.skipF rfl rfl rfl rfl rfl ?_
    refine AO.skipF rfl rfl rfl rfl rfl ?_
    refine AO.skipF rfl rfl rfl rfl rfl ?_
    refine AO.yld _ (Yld.pickT rfl rfl) rfl rfl rfl ?_
    refine AO.yld _ (Yld.move rfl) rfl rfl rfl ?_
    refine AO.skipF rfl rfl rfl rfl rfl ?_
    refine AO.skipF rfl rfl rfl rfl rfl ?_
    refine AO.skipF rfl rfl rfl rfl rfl ?_
    refine AO.skipF rfl rfl rfl rfl rfl ?_
    refine AO.yld _ (Yld.pickT rfl rfl) rfl rfl rfl ?_
    refine AO.yld _ (Yld.move rfl) rfl rfl rfl ?_
    refine AO.skipF rfl rfl rfl rfl rfl ?_
    refine AO.skipF rfl rfl rfl rfl rfl ?_
    refine AO.skipF rfl rfl rfl rfl rfl ?_
    refine AO.skipF rfl rfl rfl rfl rfl ?_
    refine AO.yld _ (Yld.pickT rfl rfl) rfl rfl rfl ?_
    refine AO.nil ?_
    refine AC.condT rfl ?_
    refine AC.seq ?_
    refine AC.region ?_
    refine AO.yld _ (Yld.assign rfl) rfl rfl rfl ?_
    refine AO.nil ?_
    refine Pure.ret Tryd.results36 (RVs.cons (RV.tmp rfl) RVs.nil) rfl ?_
    first
      | (unfold verText memoText; rw [if_pos hok, if_pos hmm, List.append_nil]; first | done | rfl)
      | (unfold verText memoText; rw [if_pos hok, if_pos hmm]; simp; done)
      | (unfold verText memoText; rw [if_pos hok, if_neg hmm]; done)
      | (unfold verText memoText; rw [if_pos hok, if_neg hmm]; rfl)
      | (unfold verText; rw [if_neg hno]; rfl)
      | (unfold verText; rw [if_neg hno]; done)
  · -- s9 False
    have h1 : 1 ≤ x.number ∧ x.number ≤ 32 := by simpa using s9
    refine AO.yldG _ (Yld.fieldAddr Tryd.underlying74 rfl rfl Tryd.sizeOf2 rfl rfl rfl) rfl rfl rfl rfl rfl ?_
    refine AO.yldG _ (Yld.load Tryd.isAgg2 rfl rfl) rfl rfl rfl rfl rfl ?_
    refine AO.yldG _ (Yld.fieldAddr Tryd.underlying74 rfl rfl Tryd.sizeOf2 rfl rfl rfl) rfl rfl rfl rfl rfl ?_
    refine AO.yldG _ (Yld.load Tryd.isAgg2 rfl rfl) rfl rfl rfl rfl rfl ?_
    refine AO.yldG _ (Yld.sub rfl rfl (by omega) (by omega)) rfl rfl rfl rfl rfl ?_
    refine AO.yldG _ (Yld.call rfl rfl Tryd.call97 rfl rfl rfl (spec_l00In_c) rfl) rfl rfl rfl rfl rfl ?_
    refine AO.yldG _ (Yld.not rfl) rfl rfl rfl rfl rfl ?_
    refine AO.yld _ (Yld.pickF rfl rfl) rfl rfl rfl ?_
    refine AO.yld _ (Yld.move rfl) rfl rfl rfl ?_
    refine AO.splitAt 18 _ rfl (fun s18 => ?_) (fun s18 => ?_)
    · -- s18 True
      have hno : ¬ okVerT x = true := fun h => by obtain ⟨a1, a2, a3, a4⟩ := verT_lim h; have h9 := s18; simp only [Bool.not_eq_true', Bool.and_eq_false_iff, decide_eq_false_iff_not] at h9; omega
      refine AO.skipF rfl rfl rfl rfl rfl ?_
      refine AO.skipF rfl rfl rfl rfl rfl ?_
      refine AO.skipF rfl rfl rfl rfl rfl ?_
      refine AO.skipF rfl rfl rfl rfl rfl ?_
      refine AO.yld _ (Yld.pickT rfl rfl) rfl rfl rfl ?_
      refine AO.yld _ (Yld.move rfl) rfl rfl rfl ?_
      refine AO.skipF rfl rfl rfl rfl rfl ?_
      refine AO.skipF rfl rfl rfl rfl rfl ?_
      refine AO.skipF rfl rfl rfl rfl rfl ?_
      refine AO.skipF rfl rfl rfl rfl rfl ?_
      refine AO.yld _ (Yld.pickT rfl rfl) rfl rfl rfl ?_
      refine AO.nil ?_
      refine AC.condT rfl ?_
      refine AC.seq ?_
      refine AC.region ?_
      refine AO.yld _ (Yld.assign rfl) rfl rfl rfl ?_
      refine AO.nil ?_
      refine Pure.ret Tryd.results36 (RVs.cons (RV.tmp rfl) RVs.nil) rfl ?_
      first
        | (unfold verText memoText; rw [if_pos hok, if_pos hmm, List.append_nil]; first | done | rfl)
        | (unfold verText memoText; rw [if_pos hok, if_pos hmm]; simp; done)
        | (unfold verText memoText; rw [if_pos hok, if_neg hmm]; done)
        | (unfold verText memoText; rw [if_pos hok, if_neg hmm]; rfl)
        | (unfold verText; rw [if_neg hno]; rfl)
        | (unfold verText; rw [if_neg hno]; done)
    · -- s18 False
      have h2 : 0 ≤ x.parent ∧ x.parent ≤ x.number - 1 := by have h9 := s18; simp only [Bool.not_eq_false', Bool.and_eq_true, decide_eq_true_eq] at h9; exact h9
      refine AO.yldG _ (Yld.fieldAddr Tryd.underlying74 rfl rfl Tryd.sizeOf9 rfl rfl rfl) rfl rfl rfl rfl rfl ?_
      refine AO.yldG _ (Yld.load Tryd.isAgg9 rfl rfl) rfl rfl rfl rfl rfl ?_
      refine AO.yldG _ (Yld.call rfl rfl Tryd.call98 rfl rfl rfl (spec_l27Memo_c (by first | assumption | omega)) rfl) rfl rfl rfl rfl rfl ?_
      refine AO.yldG _ (Yld.not rfl) rfl rfl rfl rfl rfl ?_
      refine AO.yld _ (Yld.pickF rfl rfl) rfl rfl rfl ?_
      refine AO.yld _ (Yld.move rfl) rfl rfl rfl ?_
      refine AO.splitAt 24 _ rfl (fun s24 => ?_) (fun s24 => ?_)
      · -- s24 True
        have hno : ¬ okVerT x = true := fun h => by obtain ⟨a1, a2, a3, a4⟩ := verT_lim h; have h9 := s24; simp [a3] at h9
        refine AO.skipF rfl rfl rfl rfl rfl ?_
        refine AO.skipF rfl rfl rfl rfl rfl ?_
        refine AO.skipF rfl rfl rfl rfl rfl ?_
        refine AO.skipF rfl rfl rfl rfl rfl ?_
        refine AO.yld _ (Yld.pickT rfl rfl) rfl rfl rfl ?_
        refine AO.nil ?_
        refine AC.condT rfl ?_
        refine AC.seq ?_
        refine AC.region ?_
        refine AO.yld _ (Yld.assign rfl) rfl rfl rfl ?_
        refine AO.nil ?_
        refine Pure.ret Tryd.results36 (RVs.cons (RV.tmp rfl) RVs.nil) rfl ?_
        first
          | (unfold verText memoText; rw [if_pos hok, if_pos hmm, List.append_nil]; first | done | rfl)
          | (unfold verText memoText; rw [if_pos hok, if_pos hmm]; simp; done)
          | (unfold verText memoText; rw [if_pos hok, if_neg hmm]; done)
          | (unfold verText memoText; rw [if_pos hok, if_neg hmm]; rfl)
          | (unfold verText; rw [if_neg hno]; rfl)
          | (unfold verText; rw [if_neg hno]; done)
      · -- s24 False
        have h3 : okMemo x.memo = true := by simpa using s24
        refine AO.yldG _ (Yld.fieldAddr Tryd.underlying74 rfl rfl Tryd.sizeOf72 rfl rfl rfl) rfl rfl rfl rfl rfl ?_
        refine AO.yldG _ (Yld.load Tryd.isAgg72 rfl rfl) rfl rfl rfl rfl rfl ?_
        refine AO.yldG _ (Yld.call rfl rfl Tryd.call99 rfl rfl rfl (spec_l27State_c (by first | assumption | omega) (by assumption)) rfl) rfl rfl rfl rfl rfl ?_
        refine AO.yldG _ (Yld.not rfl) rfl rfl rfl rfl rfl ?_
        refine AO.yld _ (Yld.pickF rfl rfl) rfl rfl rfl ?_
        refine AO.nil ?_
        refine AC.cond _ rfl (fun c29 => ?_) (fun c29 => ?_)
        · -- c29 True
          have hno : ¬ okVerT x = true := fun h => by obtain ⟨a1, a2, a3, a4⟩ := verT_lim h; have h9 := c29; simp [a4] at h9
          refine AC.seq ?_
          refine AC.region ?_
          refine AO.yld _ (Yld.assign rfl) rfl rfl rfl ?_
          refine AO.nil ?_
          refine Pure.ret Tryd.results36 (RVs.cons (RV.tmp rfl) RVs.nil) rfl ?_
          first
            | (unfold verText memoText; rw [if_pos hok, if_pos hmm, List.append_nil]; first | done | rfl)
            | (unfold verText memoText; rw [if_pos hok, if_pos hmm]; simp; done)
            | (unfold verText memoText; rw [if_pos hok, if_neg hmm]; done)
            | (unfold verText memoText; rw [if_pos hok, if_neg hmm]; rfl)
            | (unfold verText; rw [if_neg hno]; rfl)
            | (unfold verText; rw [if_neg hno]; done)
        · -- c29 False
          have h4 : okState x.state = true := by simpa using c29
          have hok : okVerT x = true := by simp only [okVerT, Bool.and_eq_true, decide_eq_true_eq]; exact ⟨⟨⟨h1, h2⟩, h3⟩, h4⟩
          have hil := itoa_len (n := x.number) (by omega)
          have hil2 := itoa_len (n := x.parent) (by omega)
          have hsl := state_len h4
          have hvl := verTo_len hok x.state.length
          refine AC.skip ?_
          refine AC.seq ?_
          refine AC.draw (by kernel_rfl) (by kernel_rfl) ?_
          refine AO.yld _ (Yld.fieldAddr Tryd.underlying74 rfl rfl Tryd.sizeOf2 rfl rfl rfl) rfl rfl rfl ?_
          refine AO.yld _ (Yld.load Tryd.isAgg2 rfl rfl) rfl rfl rfl ?_
          refine AO.yld _ (Yld.call rfl rfl Tryd.call100 rfl rfl rfl (spec_l01Dec_c (by omega)) rfl) rfl rfl rfl ?_
          refine AO.yld _ (Yld.cat rfl rfl (by first | (simp only [List.length_append, List.length_cons, List.length_nil]; omega) | omega)) rfl rfl rfl ?_
          refine AO.yld _ (Yld.fieldAddr Tryd.underlying74 rfl rfl Tryd.sizeOf2 rfl rfl rfl) rfl rfl rfl ?_
          refine AO.yld _ (Yld.load Tryd.isAgg2 rfl rfl) rfl rfl rfl ?_
          refine AO.yld _ (Yld.call rfl rfl Tryd.call100 rfl rfl rfl (spec_l01Dec_c (by omega)) rfl) rfl rfl rfl ?_
          refine AO.yld _ (Yld.cat rfl rfl (by first | (simp only [List.length_append, List.length_cons, List.length_nil]; omega) | omega)) rfl rfl rfl ?_
          refine AO.yld _ (Yld.assign rfl) rfl rfl rfl ?_
          refine AO.nil ?_
          refine AC.seq ?_
          refine AC.seq ?_
          refine AC.region ?_
          refine AO.yld _ (Yld.assign rfl) rfl rfl rfl ?_
          refine AO.nil ?_
          refine AC.block ?_
          refine AC.loopC [(1, _), (2, _)] [(0, _)] (fun (k : Nat) => [(4, .p (.v (.int .i64 (k : Int)))), (3, .p (.v (str (verTo x k))))]) (fun (k : Nat) => []) (fun (k : Nat) => k ≤ x.state.length) (fun (k : Nat) => x.state.length - k) 0 ⟨rfl, rfl, trivial⟩ ⟨rfl, trivial⟩ ⟨rfl, by rw [verTo_zero]; rfl, trivial⟩ trivial ?_ (fun k hJ => ?_)
          · exact Nat.zero_le _
          · -- round
            refine AC.seq ?_
            refine AC.seq ?_
            refine AC.region ?_
            refine AO.yld _ (Yld.move rfl) rfl rfl rfl ?_
            refine AO.yld _ (Yld.fieldAddr Tryd.underlying74 rfl rfl Tryd.sizeOf72 rfl rfl rfl) rfl rfl rfl ?_
            refine AO.yld _ (Yld.load Tryd.isAgg72 rfl rfl) rfl rfl rfl ?_
            refine AO.yld _ (Yld.len Tryd.underlying72 rfl rfl) rfl rfl rfl ?_
            refine AO.yld _ (Yld.int rfl rfl rfl) rfl rfl rfl ?_
            refine AO.nil ?_
            refine AC.cond _ rfl (fun c42 => ?_) (fun c42 => ?_)
            · -- c42 True
              have hk := lt_of_decM c42
              obtain ⟨y, hx⟩ := get_some hk
              have hrow := map_row (enc := encNV) hx
              have hy := set_lim8 h4 (List.mem_of_getElem? hx)
              have hil3 := itoa_len (n := y.val) (by omega)
              have hvk := verTo_len hok k
              refine AC.skip ?_
              refine AC.seq ?_
              refine AC.block ?_
              refine AC.draw (by kernel_rfl) (by kernel_rfl) ?_
              refine AO.yld _ (Yld.move rfl) rfl rfl rfl ?_
              refine AO.yld _ (Yld.fieldAddr Tryd.underlying74 rfl rfl Tryd.sizeOf72 rfl rfl rfl) rfl rfl rfl ?_
              refine AO.yld _ (Yld.load Tryd.isAgg72 rfl rfl) rfl rfl rfl ?_
              refine AO.yld _ (Yld.move rfl) rfl rfl rfl ?_
              refine AO.yld _ (Yld.indexSl Tryd.underlying72 Tryd.sizeOf146 rfl rfl hrow rfl) rfl rfl rfl ?_
              refine AO.yld _ (Yld.fieldAddr Tryd.underlying146 rfl rfl Tryd.sizeOf9 rfl rfl rfl) rfl rfl rfl ?_
              refine AO.yld _ (Yld.load Tryd.isAgg9 rfl rfl) rfl rfl rfl ?_
              refine AO.yld _ (Yld.cat rfl rfl (by first | (simp only [List.length_append, List.length_cons, List.length_nil]; omega) | omega)) rfl rfl rfl ?_
              refine AO.yld _ (Yld.cat rfl rfl (by first | (simp only [List.length_append, List.length_cons, List.length_nil]; omega) | omega)) rfl rfl rfl ?_
              refine AO.yld _ (Yld.fieldAddr Tryd.underlying74 rfl rfl Tryd.sizeOf72 rfl rfl rfl) rfl rfl rfl ?_
              refine AO.yld _ (Yld.load Tryd.isAgg72 rfl rfl) rfl rfl rfl ?_
              refine AO.yld _ (Yld.move rfl) rfl rfl rfl ?_
              refine AO.yld _ (Yld.indexSl Tryd.underlying72 Tryd.sizeOf146 rfl rfl hrow rfl) rfl rfl rfl ?_
              refine AO.yld _ (Yld.fieldAddr Tryd.underlying146 rfl rfl Tryd.sizeOf2 rfl rfl rfl) rfl rfl rfl ?_
              refine AO.yld _ (Yld.load Tryd.isAgg2 rfl rfl) rfl rfl rfl ?_
              refine AO.yld _ (Yld.call rfl rfl Tryd.call100 rfl rfl rfl (spec_l01Dec_c (by omega)) rfl) rfl rfl rfl ?_
              refine AO.yld _ (Yld.cat rfl rfl (by first | (simp only [List.length_append, List.length_cons, List.length_nil]; omega) | omega)) rfl rfl rfl ?_
              refine AO.yld _ (Yld.cat rfl rfl (by first | (simp only [List.length_append, List.length_cons, List.length_nil]; omega) | omega)) rfl rfl rfl ?_
              refine AO.yld _ (Yld.assign rfl) rfl rfl rfl ?_
              refine AO.nil ?_
              refine AC.mark ?_
              refine AC.region ?_
              refine AO.yld _ (Yld.move rfl) rfl rfl rfl ?_
              refine AO.yld _ (Yld.add rfl rfl (by first | (simp only [List.length_append, List.length_cons, List.length_nil]; omega) | omega) (by first | (simp only [List.length_append, List.length_cons, List.length_nil]; omega) | omega)) rfl rfl rfl ?_
              refine AO.yld _ (Yld.assign rfl) rfl rfl rfl ?_
              refine AO.nil ?_
              refine AC.back ⟨k + 1, ?_, ?_, ⟨?_, ?_, trivial⟩, trivial, ⟨rfl, rfl, trivial⟩, ⟨rfl, trivial⟩⟩
              · exact hk
              · omega
              · rfl
              · rw [verTo_succ hx]; rfl
            · -- c42 False
              obtain rfl : k = x.state.length := by have := ge_of_decM c42; omega
              refine AC.exit rfl ?_
              refine AC.seq ?_
              refine AC.seq ?_
              refine AC.region ?_
              refine AO.yld _ (Yld.fieldAddr Tryd.underlying74 rfl rfl Tryd.sizeOf9 rfl rfl rfl) rfl rfl rfl ?_
              refine AO.yld _ (Yld.load Tryd.isAgg9 rfl rfl) rfl rfl rfl ?_
              refine AO.yld _ (Yld.cmpStr rfl rfl rfl) rfl rfl rfl ?_
              refine AO.nil ?_
              refine AC.cond _ rfl (fun c65 => ?_) (fun c65 => ?_)
              · -- c65 True
                have hmm : ¬ x.memo = [] := by simpa using c65
                refine AC.region ?_
                refine AO.yld _ (Yld.move rfl) rfl rfl rfl ?_
                refine AO.yld _ (Yld.fieldAddr Tryd.underlying74 rfl rfl Tryd.sizeOf9 rfl rfl rfl) rfl rfl rfl ?_
                refine AO.yld _ (Yld.load Tryd.isAgg9 rfl rfl) rfl rfl rfl ?_
                refine AO.yld _ (Yld.cat rfl rfl (by first | (simp only [List.length_append, List.length_cons, List.length_nil]; omega) | omega)) rfl rfl rfl ?_
                refine AO.yld _ (Yld.cat rfl rfl (by first | (simp only [List.length_append, List.length_cons, List.length_nil]; omega) | omega)) rfl rfl rfl ?_
                refine AO.yld _ (Yld.assign rfl) rfl rfl rfl ?_
                refine AO.nil ?_
                refine AC.seq ?_
                refine AC.region ?_
                refine AO.yld _ (Yld.move rfl) rfl rfl rfl ?_
                refine AO.yld _ (Yld.assign rfl) rfl rfl rfl ?_
                refine AO.nil ?_
                refine Pure.ret Tryd.results36 (RVs.cons (RV.tmp rfl) RVs.nil) rfl ?_
                first
                  | (unfold verText memoText; rw [if_pos hok, if_pos hmm, List.append_nil]; first | done | rfl)
                  | (unfold verText memoText; rw [if_pos hok, if_pos hmm]; simp; done)
                  | (unfold verText memoText; rw [if_pos hok, if_neg hmm]; done)
                  | (unfold verText memoText; rw [if_pos hok, if_neg hmm]; rfl)
                  | (unfold verText; rw [if_neg hno]; rfl)
                  | (unfold verText; rw [if_neg hno]; done)
              · -- c65 False
                have hmm : x.memo = [] := by simpa using c65
                refine AC.skip ?_
                refine AC.seq ?_
                refine AC.region ?_
                refine AO.yld _ (Yld.move rfl) rfl rfl rfl ?_
                refine AO.yld _ (Yld.assign rfl) rfl rfl rfl ?_
                refine AO.nil ?_
                refine Pure.ret Tryd.results36 (RVs.cons (RV.tmp rfl) RVs.nil) rfl ?_
                first
                  | (unfold verText memoText; rw [if_pos hok, if_pos hmm, List.append_nil]; first | done | rfl)
                  | (unfold verText memoText; rw [if_pos hok, if_pos hmm]; simp; done)
                  | (unfold verText memoText; rw [if_pos hok, if_neg hmm]; done)
                  | (unfold verText memoText; rw [if_pos hok, if_neg hmm]; rfl)
                  | (unfold verText; rw [if_neg hno]; rfl)
                  | (unfold verText; rw [if_neg hno]; done)

theorem impl_VersionText_c {x : Ver} (hg : VerGood x) :
    FnE (α := Unit) Tryd.prog 38 [.agg ((encVer x).map .p)] [(0, powR Tryd.prog)] [0] (fun _ => True) (fun _ => .p (.v (str (verText x)))) (fun _ => [(0, powR Tryd.prog)]) := by
  obtain ⟨g1, g2, g3⟩ := hg
  refine FnE.intro Tryd.func38 rfl Tryd.ntmps38 rfl rfl (fun w0 F0 η φ w => ?_)
  refine AC.seq ?_
  refine AC.region ?_
  refine AO.box 1 rfl rfl rfl rfl rfl ?_
  refine AO.yld _ (Yld.assign rfl) rfl rfl rfl ?_
  refine AO.nil ?_
  refine AC.seq ?_
  refine AC.seq ?_
  refine AC.region ?_
  refine AO.yld _ (Yld.fieldAddr Tryd.underlying74 rfl rfl Tryd.sizeOf2 rfl rfl rfl) rfl rfl rfl ?_
  refine AO.yld _ (Yld.load Tryd.isAgg2 rfl rfl) rfl rfl rfl ?_
  refine AO.yld _ (Yld.call rfl rfl Tryd.call80 rfl rfl rfl (impl_within_c) rfl) rfl rfl rfl ?_
  refine AO.yld _ (Yld.not rfl) rfl rfl rfl ?_
  refine AO.yld _ (Yld.move rfl) rfl rfl rfl ?_
  refine AO.splitAt 10 _ rfl (fun s10 => ?_) (fun s10 => ?_)
  · -- s10 True
    have hno : ¬ okVerT x = true := fun h => by obtain ⟨a1, a2, a3, a4⟩ := verT_lim h; have h9 := s10; simp only [Bool.not_eq_true', Bool.and_eq_false_iff, decide_eq_false_iff_not] at h9; omega
    refine AO.skipF rfl rfl rfl rfl rfl ?_
    refine AO.skipF rfl rfl rfl rfl rfl ?_
    refine AO.skipF rfl rfl rfl rfl rfl ?_
    refine AO.skipF rfl rfl rfl rfl rfl ?_
    refine AO.skipF rfl rfl rfl rfl rfl ?_
    refine AO.skipF rfl rfl rfl rfl rfl ?_
    refine AO.skipF rfl rfl rfl rfl rfl ?_
    refine AO.yld _ (Yld.pickT rfl rfl) rfl rfl rfl ?_
    refine AO.yld _ (Yld.move rfl) rfl rfl rfl ?_
    refine AO.skipF rfl rfl rfl rfl rfl ?_
    refine AO.skipF rfl rfl rfl rfl rfl ?_
    refine AO.skipF rfl rfl rfl rfl rfl ?_
    refine AO.skipF rfl rfl rfl rfl rfl ?_
    refine AO.yld _ (Yld.pickT rfl rfl) rfl rfl rfl ?_
    refine AO.yld _ (Yld.move rfl) rfl rfl rfl ?_
    refine AO.skipF rfl rfl rfl rfl rfl ?_
    refine AO.skipF rfl rfl rfl rfl rfl ?_
    refine AO.skipF rfl rfl rfl rfl rfl ?_
    refine AO.skipF rfl rfl rfl rfl rfl ?_
    refine AO.yld _ (Yld.pickT rfl rfl) rfl rfl rfl ?_
    refine AO.nil ?_
    refine AC.condT rfl ?_
    refine AC.seq ?_
    refine AC.region ?_
    refine AO.yld _ (Yld.assign rfl) rfl rfl rfl ?_
    refine AO.nil ?_
    refine FnE.ret () [0] [0] Tryd.results38 (RVs.cons (RV.tmp rfl) RVs.nil) rfl rfl rfl ?_ ?_ ⟨⟨_, rfl, ?_⟩, trivial⟩
    · -- holds
      trivial
    · -- value
      first
        | (unfold verText memoText; rw [if_pos hok, if_pos hmm, List.append_nil]; first | done | rfl)
        | (unfold verText memoText; rw [if_pos hok, if_pos hmm]; simp; done)
        | (unfold verText memoText; rw [if_pos hok, if_neg hmm]; done)
        | (unfold verText memoText; rw [if_pos hok, if_neg hmm]; rfl)
        | (unfold verText; rw [if_neg hno]; rfl)
        | (unfold verText; rw [if_neg hno]; done)
    · -- thing 0
      first | rfl | exact vecE (by first | rfl | (simp_all; done) | grind) | (simp_all; done)
  · -- s10 False
    have h1 : 1 ≤ x.number ∧ x.number ≤ 32 := by simpa using s10
    refine AO.yldG _ (Yld.fieldAddr Tryd.underlying74 rfl rfl Tryd.sizeOf2 rfl rfl rfl) rfl rfl rfl rfl rfl ?_
    refine AO.yldG _ (Yld.load Tryd.isAgg2 rfl rfl) rfl rfl rfl rfl rfl ?_
    refine AO.yldG _ (Yld.fieldAddr Tryd.underlying74 rfl rfl Tryd.sizeOf2 rfl rfl rfl) rfl rfl rfl rfl rfl ?_
    refine AO.yldG _ (Yld.load Tryd.isAgg2 rfl rfl) rfl rfl rfl rfl rfl ?_
    refine AO.yldG _ (Yld.sub rfl rfl (by omega) (by omega)) rfl rfl rfl rfl rfl ?_
    refine AO.yldG _ (Yld.call rfl rfl Tryd.call80 rfl rfl rfl (impl_within_c) rfl) rfl rfl rfl rfl rfl ?_
    refine AO.yldG _ (Yld.not rfl) rfl rfl rfl rfl rfl ?_
    refine AO.yld _ (Yld.pickF rfl rfl) rfl rfl rfl ?_
    refine AO.yld _ (Yld.move rfl) rfl rfl rfl ?_
    refine AO.splitAt 19 _ rfl (fun s19 => ?_) (fun s19 => ?_)
    · -- s19 True
      have hno : ¬ okVerT x = true := fun h => by obtain ⟨a1, a2, a3, a4⟩ := verT_lim h; have h9 := s19; simp only [Bool.not_eq_true', Bool.and_eq_false_iff, decide_eq_false_iff_not] at h9; omega
      refine AO.skipF rfl rfl rfl rfl rfl ?_
      refine AO.skipF rfl rfl rfl rfl rfl ?_
      refine AO.skipF rfl rfl rfl rfl rfl ?_
      refine AO.skipF rfl rfl rfl rfl rfl ?_
      refine AO.yld _ (Yld.pickT rfl rfl) rfl rfl rfl ?_
      refine AO.yld _ (Yld.move rfl) rfl rfl rfl ?_
      refine AO.skipF rfl rfl rfl rfl rfl ?_
      refine AO.skipF rfl rfl rfl rfl rfl ?_
      refine AO.skipF rfl rfl rfl rfl rfl ?_
      refine AO.skipF rfl rfl rfl rfl rfl ?_
      refine AO.yld _ (Yld.pickT rfl rfl) rfl rfl rfl ?_
      refine AO.nil ?_
      refine AC.condT rfl ?_
      refine AC.seq ?_
      refine AC.region ?_
      refine AO.yld _ (Yld.assign rfl) rfl rfl rfl ?_
      refine AO.nil ?_
      refine FnE.ret () [0] [0] Tryd.results38 (RVs.cons (RV.tmp rfl) RVs.nil) rfl rfl rfl ?_ ?_ ⟨⟨_, rfl, ?_⟩, trivial⟩
      · -- holds
        trivial
      · -- value
        first
          | (unfold verText memoText; rw [if_pos hok, if_pos hmm, List.append_nil]; first | done | rfl)
          | (unfold verText memoText; rw [if_pos hok, if_pos hmm]; simp; done)
          | (unfold verText memoText; rw [if_pos hok, if_neg hmm]; done)
          | (unfold verText memoText; rw [if_pos hok, if_neg hmm]; rfl)
          | (unfold verText; rw [if_neg hno]; rfl)
          | (unfold verText; rw [if_neg hno]; done)
      · -- thing 0
        first | rfl | exact vecE (by first | rfl | (simp_all; done) | grind) | (simp_all; done)
    · -- s19 False
      have h2 : 0 ≤ x.parent ∧ x.parent ≤ x.number - 1 := by have h9 := s19; simp only [Bool.not_eq_false', Bool.and_eq_true, decide_eq_true_eq] at h9; exact h9
      refine AO.yldG _ (Yld.fieldAddr Tryd.underlying74 rfl rfl Tryd.sizeOf9 rfl rfl rfl) rfl rfl rfl rfl rfl ?_
      refine AO.yldG _ (Yld.load Tryd.isAgg9 rfl rfl) rfl rfl rfl rfl rfl ?_
      refine AO.yldG _ (Yld.call rfl rfl Tryd.call102 rfl rfl rfl (impl_validMemo_c (by first | assumption | omega)) rfl) rfl rfl rfl rfl rfl ?_
      refine AO.yldG _ (Yld.not rfl) rfl rfl rfl rfl rfl ?_
      refine AO.yld _ (Yld.pickF rfl rfl) rfl rfl rfl ?_
      refine AO.yld _ (Yld.move rfl) rfl rfl rfl ?_
      refine AO.splitAt 25 _ rfl (fun s25 => ?_) (fun s25 => ?_)
      · -- s25 True
        have hno : ¬ okVerT x = true := fun h => by obtain ⟨a1, a2, a3, a4⟩ := verT_lim h; have h9 := s25; simp [a3] at h9
        refine AO.skipF rfl rfl rfl rfl rfl ?_
        refine AO.skipF rfl rfl rfl rfl rfl ?_
        refine AO.skipF rfl rfl rfl rfl rfl ?_
        refine AO.skipF rfl rfl rfl rfl rfl ?_
        refine AO.yld _ (Yld.pickT rfl rfl) rfl rfl rfl ?_
        refine AO.nil ?_
        refine AC.condT rfl ?_
        refine AC.seq ?_
        refine AC.region ?_
        refine AO.yld _ (Yld.assign rfl) rfl rfl rfl ?_
        refine AO.nil ?_
        refine FnE.ret () [0] [0] Tryd.results38 (RVs.cons (RV.tmp rfl) RVs.nil) rfl rfl rfl ?_ ?_ ⟨⟨_, rfl, ?_⟩, trivial⟩
        · -- holds
          trivial
        · -- value
          first
            | (unfold verText memoText; rw [if_pos hok, if_pos hmm, List.append_nil]; first | done | rfl)
            | (unfold verText memoText; rw [if_pos hok, if_pos hmm]; simp; done)
            | (unfold verText memoText; rw [if_pos hok, if_neg hmm]; done)
            | (unfold verText memoText; rw [if_pos hok, if_neg hmm]; rfl)
            | (unfold verText; rw [if_neg hno]; rfl)
            | (unfold verText; rw [if_neg hno]; done)
        · -- thing 0
          first | rfl | exact vecE (by first | rfl | (simp_all; done) | grind) | (simp_all; done)
      · -- s25 False
        have h3 : okMemo x.memo = true := by simpa using s25
        refine AO.yldG _ (Yld.fieldAddr Tryd.underlying74 rfl rfl Tryd.sizeOf72 rfl rfl rfl) rfl rfl rfl rfl rfl ?_
        refine AO.yldG _ (Yld.load Tryd.isAgg72 rfl rfl) rfl rfl rfl rfl rfl ?_
        refine AO.yldG _ (Yld.call rfl rfl Tryd.call103 rfl rfl rfl (impl_ValidState_c (by first | assumption | omega) (by assumption)) rfl) rfl rfl rfl rfl rfl ?_
        refine AO.yldG _ (Yld.not rfl) rfl rfl rfl rfl rfl ?_
        refine AO.yld _ (Yld.pickF rfl rfl) rfl rfl rfl ?_
        refine AO.nil ?_
        refine AC.cond _ rfl (fun c30 => ?_) (fun c30 => ?_)
        · -- c30 True
          have hno : ¬ okVerT x = true := fun h => by obtain ⟨a1, a2, a3, a4⟩ := verT_lim h; have h9 := c30; simp [a4] at h9
          refine AC.seq ?_
          refine AC.region ?_
          refine AO.yld _ (Yld.assign rfl) rfl rfl rfl ?_
          refine AO.nil ?_
          refine FnE.ret () [0] [0] Tryd.results38 (RVs.cons (RV.tmp rfl) RVs.nil) rfl rfl rfl ?_ ?_ ⟨⟨_, rfl, ?_⟩, trivial⟩
          · -- holds
            trivial
          · -- value
            first
              | (unfold verText memoText; rw [if_pos hok, if_pos hmm, List.append_nil]; first | done | rfl)
              | (unfold verText memoText; rw [if_pos hok, if_pos hmm]; simp; done)
              | (unfold verText memoText; rw [if_pos hok, if_neg hmm]; done)
              | (unfold verText memoText; rw [if_pos hok, if_neg hmm]; rfl)
              | (unfold verText; rw [if_neg hno]; rfl)
              | (unfold verText; rw [if_neg hno]; done)
          · -- thing 0
            first | rfl | exact vecE (by first | rfl | (simp_all; done) | grind) | (simp_all; done)
        · -- c30 False
          have h4 : okState x.state = true := by simpa using c30
          have hok : okVerT x = true := by simp only [okVerT, Bool.and_eq_true, decide_eq_true_eq]; exact ⟨⟨⟨h1, h2⟩, h3⟩, h4⟩
          have hil := itoa_len (n := x.number) (by omega)
          have hil2 := itoa_len (n := x.parent) (by omega)
          have hsl := state_len h4
          have hvl := verTo_len hok x.state.length
          refine AC.skip ?_
          refine AC.seq ?_
          apply AC.drawAnyC (α := Unit) [(0, _), (1, _), (2, _), (6, _), (7, _), (8, _), (9, _), (10, _), (11, _), (12, _), (13, _), (14, _), (15, _), (16, _), (17, _), (18, _), (19, _), (20, _), (21, _), (22, _), (23, _), (24, _), (25, _), (26, _), (27, _), (28, _), (29, _), (30, _)] [(0, _), (1, _), (900, _)] (fun y9 => [(3, .p (.v (str (Lib.itoa x.number ++ [60] ++ Lib.itoa x.parent))))]) (fun y9 => []) (by kernel_rfl)
          · -- orders
            refine ANx.take 0 rfl (by kernel_rfl) (by kernel_rfl) (by kernel_rfl) rfl rfl rfl (YldA.fieldAddr Tryd.underlying74 rfl rfl Tryd.sizeOf2 rfl rfl rfl) ?_
            refine ANx.take 4 rfl (by kernel_rfl) (by kernel_rfl) (by kernel_rfl) rfl rfl rfl (YldA.fieldAddr Tryd.underlying74 rfl rfl Tryd.sizeOf2 rfl rfl rfl) ?_
            refine ANx.all (rs := [1, 5]) (by kernel_rfl) rfl ⟨?_, ?_, trivial⟩
            · -- 1
              refine Stpx.eff rfl rfl (Eff.yld (Yld.load Tryd.isAgg2 rfl rfl) rfl rfl) ?_
              refine ANx.all (rs := [2, 5]) (by kernel_rfl) rfl ⟨?_, ?_, trivial⟩
              · -- 2
                refine Stpx.effX rfl rfl (EffX.callW [0] [0] [0] rfl rfl Tryd.call86 rfl (impl_Decimal_c (by omega) (by omega)) (.own rfl) rfl (fun _ => rfl) ⟨rfl, trivial⟩ rfl (fun _ => rfl) (fun _ => rfl)) ?_
                rintro _ ⟨⟨⟩, hu33, rfl⟩
                refine ANx.all (rs := [3, 5]) (by kernel_rfl) rfl ⟨?_, ?_, trivial⟩
                · -- 3
                  refine Stpx.eff rfl rfl (Eff.yld (Yld.cat rfl rfl (by first | (simp only [List.length_append, List.length_cons, List.length_nil]; omega) | omega)) rfl rfl) ?_
                  refine ANx.all (rs := [5]) (by kernel_rfl) rfl ⟨?_, trivial⟩
                  refine Stpx.eff rfl rfl (Eff.yld (Yld.load Tryd.isAgg2 rfl rfl) rfl rfl) ?_
                  refine ANx.all (rs := [6]) (by kernel_rfl) rfl ⟨?_, trivial⟩
                  refine Stpx.effX rfl rfl (EffX.callW [0] [0] [0] rfl rfl Tryd.call86 rfl (impl_Decimal_c (by omega) (by omega)) (.own rfl) rfl (fun _ => rfl) ⟨rfl, trivial⟩ rfl (fun _ => rfl) (fun _ => rfl)) ?_
                  rintro _ ⟨⟨⟩, hu37, rfl⟩
                  refine ANx.all (rs := [7]) (by kernel_rfl) rfl ⟨?_, trivial⟩
                  refine Stpx.eff rfl rfl (Eff.yld (Yld.cat rfl rfl (by first | (simp only [List.length_append, List.length_cons, List.length_nil]; omega) | omega)) rfl rfl) ?_
                  refine ANx.take 8 rfl (by kernel_rfl) (by kernel_rfl) (by kernel_rfl) rfl rfl rfl (YldA.assign rfl) ?_
                  exact ANx.doneC () (by kernel_rfl) ⟨rfl, trivial⟩ trivial ⟨rfl, rfl, rfl, rfl, rfl, rfl, rfl, rfl, rfl, rfl, rfl, rfl, rfl, rfl, rfl, rfl, rfl, rfl, rfl, rfl, rfl, rfl, rfl, rfl, rfl, rfl, rfl, rfl, trivial⟩ ⟨rfl, rfl, rfl, trivial⟩
                · -- 5
                  refine Stpx.eff rfl rfl (Eff.yld (Yld.load Tryd.isAgg2 rfl rfl) rfl rfl) ?_
                  refine ANx.all (rs := [3, 6]) (by kernel_rfl) rfl ⟨?_, ?_, trivial⟩
                  · -- 3
                    refine Stpx.eff rfl rfl (Eff.yld (Yld.cat rfl rfl (by first | (simp only [List.length_append, List.length_cons, List.length_nil]; omega) | omega)) rfl rfl) ?_
                    refine ANx.all (rs := [6]) (by kernel_rfl) rfl ⟨?_, trivial⟩
                    refine Stpx.effX rfl rfl (EffX.callW [0] [0] [0] rfl rfl Tryd.call86 rfl (impl_Decimal_c (by omega) (by omega)) (.own rfl) rfl (fun _ => rfl) ⟨rfl, trivial⟩ rfl (fun _ => rfl) (fun _ => rfl)) ?_
                    rintro _ ⟨⟨⟩, hu37, rfl⟩
                    refine ANx.all (rs := [7]) (by kernel_rfl) rfl ⟨?_, trivial⟩
                    refine Stpx.eff rfl rfl (Eff.yld (Yld.cat rfl rfl (by first | (simp only [List.length_append, List.length_cons, List.length_nil]; omega) | omega)) rfl rfl) ?_
                    refine ANx.take 8 rfl (by kernel_rfl) (by kernel_rfl) (by kernel_rfl) rfl rfl rfl (YldA.assign rfl) ?_
                    exact ANx.doneC () (by kernel_rfl) ⟨rfl, trivial⟩ trivial ⟨rfl, rfl, rfl, rfl, rfl, rfl, rfl, rfl, rfl, rfl, rfl, rfl, rfl, rfl, rfl, rfl, rfl, rfl, rfl, rfl, rfl, rfl, rfl, rfl, rfl, rfl, rfl, rfl, trivial⟩ ⟨rfl, rfl, rfl, trivial⟩
                  · -- 6
                    refine Stpx.effX rfl rfl (EffX.callW [0] [0] [0] rfl rfl Tryd.call86 rfl (impl_Decimal_c (by omega) (by omega)) (.own rfl) rfl (fun _ => rfl) ⟨rfl, trivial⟩ rfl (fun _ => rfl) (fun _ => rfl)) ?_
                    rintro _ ⟨⟨⟩, hu37, rfl⟩
                    refine ANx.all (rs := [3]) (by kernel_rfl) rfl ⟨?_, trivial⟩
                    refine Stpx.eff rfl rfl (Eff.yld (Yld.cat rfl rfl (by first | (simp only [List.length_append, List.length_cons, List.length_nil]; omega) | omega)) rfl rfl) ?_
                    refine ANx.all (rs := [7]) (by kernel_rfl) rfl ⟨?_, trivial⟩
                    refine Stpx.eff rfl rfl (Eff.yld (Yld.cat rfl rfl (by first | (simp only [List.length_append, List.length_cons, List.length_nil]; omega) | omega)) rfl rfl) ?_
                    refine ANx.take 8 rfl (by kernel_rfl) (by kernel_rfl) (by kernel_rfl) rfl rfl rfl (YldA.assign rfl) ?_
                    exact ANx.doneC () (by kernel_rfl) ⟨rfl, trivial⟩ trivial ⟨rfl, rfl, rfl, rfl, rfl, rfl, rfl, rfl, rfl, rfl, rfl, rfl, rfl, rfl, rfl, rfl, rfl, rfl, rfl, rfl, rfl, rfl, rfl, rfl, rfl, rfl, rfl, rfl, trivial⟩ ⟨rfl, rfl, rfl, trivial⟩
              · -- 5
                refine Stpx.eff rfl rfl (Eff.yld (Yld.load Tryd.isAgg2 rfl rfl) rfl rfl) ?_
                refine ANx.all (rs := [2]) (by kernel_rfl) rfl ⟨?_, trivial⟩
                refine Stpx.effX rfl rfl (EffX.callW [0] [0] [0] rfl rfl Tryd.call86 rfl (impl_Decimal_c (by omega) (by omega)) (.own rfl) rfl (fun _ => rfl) ⟨rfl, trivial⟩ rfl (fun _ => rfl) (fun _ => rfl)) ?_
                rintro _ ⟨⟨⟩, hu33, rfl⟩
                refine ANx.all (rs := [3, 6]) (by kernel_rfl) rfl ⟨?_, ?_, trivial⟩
                · -- 3
                  refine Stpx.eff rfl rfl (Eff.yld (Yld.cat rfl rfl (by first | (simp only [List.length_append, List.length_cons, List.length_nil]; omega) | omega)) rfl rfl) ?_
                  refine ANx.all (rs := [6]) (by kernel_rfl) rfl ⟨?_, trivial⟩
                  refine Stpx.effX rfl rfl (EffX.callW [0] [0] [0] rfl rfl Tryd.call86 rfl (impl_Decimal_c (by omega) (by omega)) (.own rfl) rfl (fun _ => rfl) ⟨rfl, trivial⟩ rfl (fun _ => rfl) (fun _ => rfl)) ?_
                  rintro _ ⟨⟨⟩, hu37, rfl⟩
                  refine ANx.all (rs := [7]) (by kernel_rfl) rfl ⟨?_, trivial⟩
                  refine Stpx.eff rfl rfl (Eff.yld (Yld.cat rfl rfl (by first | (simp only [List.length_append, List.length_cons, List.length_nil]; omega) | omega)) rfl rfl) ?_
                  refine ANx.take 8 rfl (by kernel_rfl) (by kernel_rfl) (by kernel_rfl) rfl rfl rfl (YldA.assign rfl) ?_
                  exact ANx.doneC () (by kernel_rfl) ⟨rfl, trivial⟩ trivial ⟨rfl, rfl, rfl, rfl, rfl, rfl, rfl, rfl, rfl, rfl, rfl, rfl, rfl, rfl, rfl, rfl, rfl, rfl, rfl, rfl, rfl, rfl, rfl, rfl, rfl, rfl, rfl, rfl, trivial⟩ ⟨rfl, rfl, rfl, trivial⟩
                · -- 6
                  refine Stpx.effX rfl rfl (EffX.callW [0] [0] [0] rfl rfl Tryd.call86 rfl (impl_Decimal_c (by omega) (by omega)) (.own rfl) rfl (fun _ => rfl) ⟨rfl, trivial⟩ rfl (fun _ => rfl) (fun _ => rfl)) ?_
                  rintro _ ⟨⟨⟩, hu37, rfl⟩
                  refine ANx.all (rs := [3]) (by kernel_rfl) rfl ⟨?_, trivial⟩
                  refine Stpx.eff rfl rfl (Eff.yld (Yld.cat rfl rfl (by first | (simp only [List.length_append, List.length_cons, List.length_nil]; omega) | omega)) rfl rfl) ?_
                  refine ANx.all (rs := [7]) (by kernel_rfl) rfl ⟨?_, trivial⟩
                  refine Stpx.eff rfl rfl (Eff.yld (Yld.cat rfl rfl (by first | (simp only [List.length_append, List.length_cons, List.length_nil]; omega) | omega)) rfl rfl) ?_
                  refine ANx.take 8 rfl (by kernel_rfl) (by kernel_rfl) (by kernel_rfl) rfl rfl rfl (YldA.assign rfl) ?_
                  exact ANx.doneC () (by kernel_rfl) ⟨rfl, trivial⟩ trivial ⟨rfl, rfl, rfl, rfl, rfl, rfl, rfl, rfl, rfl, rfl, rfl, rfl, rfl, rfl, rfl, rfl, rfl, rfl, rfl, rfl, rfl, rfl, rfl, rfl, rfl, rfl, rfl, rfl, trivial⟩ ⟨rfl, rfl, rfl, trivial⟩
            · -- 5
              refine Stpx.eff rfl rfl (Eff.yld (Yld.load Tryd.isAgg2 rfl rfl) rfl rfl) ?_
              refine ANx.all (rs := [1]) (by kernel_rfl) rfl ⟨?_, trivial⟩
              refine Stpx.eff rfl rfl (Eff.yld (Yld.load Tryd.isAgg2 rfl rfl) rfl rfl) ?_
              refine ANx.all (rs := [2]) (by kernel_rfl) rfl ⟨?_, trivial⟩
              refine Stpx.effX rfl rfl (EffX.callW [0] [0] [0] rfl rfl Tryd.call86 rfl (impl_Decimal_c (by omega) (by omega)) (.own rfl) rfl (fun _ => rfl) ⟨rfl, trivial⟩ rfl (fun _ => rfl) (fun _ => rfl)) ?_
              rintro _ ⟨⟨⟩, hu33, rfl⟩
              refine ANx.all (rs := [3, 6]) (by kernel_rfl) rfl ⟨?_, ?_, trivial⟩
              · -- 3
                refine Stpx.eff rfl rfl (Eff.yld (Yld.cat rfl rfl (by first | (simp only [List.length_append, List.length_cons, List.length_nil]; omega) | omega)) rfl rfl) ?_
                refine ANx.all (rs := [6]) (by kernel_rfl) rfl ⟨?_, trivial⟩
                refine Stpx.effX rfl rfl (EffX.callW [0] [0] [0] rfl rfl Tryd.call86 rfl (impl_Decimal_c (by omega) (by omega)) (.own rfl) rfl (fun _ => rfl) ⟨rfl, trivial⟩ rfl (fun _ => rfl) (fun _ => rfl)) ?_
                rintro _ ⟨⟨⟩, hu37, rfl⟩
                refine ANx.all (rs := [7]) (by kernel_rfl) rfl ⟨?_, trivial⟩
                refine Stpx.eff rfl rfl (Eff.yld (Yld.cat rfl rfl (by first | (simp only [List.length_append, List.length_cons, List.length_nil]; omega) | omega)) rfl rfl) ?_
                refine ANx.take 8 rfl (by kernel_rfl) (by kernel_rfl) (by kernel_rfl) rfl rfl rfl (YldA.assign rfl) ?_
                exact ANx.doneC () (by kernel_rfl) ⟨rfl, trivial⟩ trivial ⟨rfl, rfl, rfl, rfl, rfl, rfl, rfl, rfl, rfl, rfl, rfl, rfl, rfl, rfl, rfl, rfl, rfl, rfl, rfl, rfl, rfl, rfl, rfl, rfl, rfl, rfl, rfl, rfl, trivial⟩ ⟨rfl, rfl, rfl, trivial⟩
              · -- 6
                refine Stpx.effX rfl rfl (EffX.callW [0] [0] [0] rfl rfl Tryd.call86 rfl (impl_Decimal_c (by omega) (by omega)) (.own rfl) rfl (fun _ => rfl) ⟨rfl, trivial⟩ rfl (fun _ => rfl) (fun _ => rfl)) ?_
                rintro _ ⟨⟨⟩, hu37, rfl⟩
                refine ANx.all (rs := [3]) (by kernel_rfl) rfl ⟨?_, trivial⟩
                refine Stpx.eff rfl rfl (Eff.yld (Yld.cat rfl rfl (by first | (simp only [List.length_append, List.length_cons, List.length_nil]; omega) | omega)) rfl rfl) ?_
                refine ANx.all (rs := [7]) (by kernel_rfl) rfl ⟨?_, trivial⟩
                refine Stpx.eff rfl rfl (Eff.yld (Yld.cat rfl rfl (by first | (simp only [List.length_append, List.length_cons, List.length_nil]; omega) | omega)) rfl rfl) ?_
                refine ANx.take 8 rfl (by kernel_rfl) (by kernel_rfl) (by kernel_rfl) rfl rfl rfl (YldA.assign rfl) ?_
                exact ANx.doneC () (by kernel_rfl) ⟨rfl, trivial⟩ trivial ⟨rfl, rfl, rfl, rfl, rfl, rfl, rfl, rfl, rfl, rfl, rfl, rfl, rfl, rfl, rfl, rfl, rfl, rfl, rfl, rfl, rfl, rfl, rfl, rfl, rfl, rfl, rfl, rfl, trivial⟩ ⟨rfl, rfl, rfl, trivial⟩
          · -- behind
            rintro y9
            refine AC.seq ?_
            refine AC.seq ?_
            refine AC.region ?_
            refine AO.yld _ (Yld.fieldAddr Tryd.underlying74 rfl rfl Tryd.sizeOf72 rfl rfl rfl) rfl rfl rfl ?_
            refine AO.yld _ (Yld.load Tryd.isAgg72 rfl rfl) rfl rfl rfl ?_
            refine AO.yld _ (Yld.len Tryd.underlying72 rfl rfl) rfl rfl rfl ?_
            refine AO.yld _ (Yld.move rfl) rfl rfl rfl ?_
            refine AO.nil ?_
            refine AC.block ?_
            refine AC.loopC [(1, _), (2, _), (40, _), (41, _)] [(0, _), (1, _), (900, _)] (fun (k : Nat) => [(42, .p (.v (.int .i64 (k : Int)))), (3, .p (.v (str (verTo x k))))]) (fun (k : Nat) => []) (fun (k : Nat) => k ≤ x.state.length) (fun (k : Nat) => x.state.length - k) 0 ⟨rfl, rfl, rfl, rfl, trivial⟩ ⟨rfl, rfl, rfl, trivial⟩ ⟨rfl, by rw [verTo_zero]; rfl, trivial⟩ trivial ?_ (fun k hJ => ?_)
            · exact Nat.zero_le _
            · -- round
              refine AC.seq ?_
              refine AC.region ?_
              refine AO.yld _ (Yld.int rfl rfl rfl) rfl rfl rfl ?_
              refine AO.nil ?_
              refine AC.seq ?_
              refine AC.cond _ rfl (fun c43 => ?_) (fun c43 => ?_)
              · -- c43 True
                have hk := lt_of_decM c43
                obtain ⟨y, hx⟩ := get_some hk
                have hrow := map_row (enc := encNV) hx
                have hy := set_lim8 h4 (List.mem_of_getElem? hx)
                have hil3 := itoa_len (n := y.val) (by omega)
                have hvk := verTo_len hok k
                refine AC.skip ?_
                refine AC.seq ?_
                refine AC.block ?_
                refine AC.seq ?_
                refine AC.region ?_
                refine AO.yld _ (Yld.indexSl Tryd.underlying72 Tryd.sizeOf146 rfl rfl hrow rfl) rfl rfl rfl ?_
                refine AO.yld _ (Yld.loadAgg Tryd.isAgg146 Tryd.sizeOf146 rfl rfl rfl rfl) rfl rfl rfl ?_
                refine AO.alloc 2 Tryd.zeroValue146 rfl rfl rfl ?_
                refine AO.store Tryd.sizeOf146 rfl rfl rfl rfl rfl rfl ?_
                refine AO.nil ?_
                apply AC.drawAnyC (α := Unit) [(1, _), (2, _), (5, _), (40, _), (41, _), (42, _), (43, _), (44, _), (45, _)] [(0, _), (1, _), (2, _), (900, _)] (fun y9 => [(3, .p (.v (str (verTo x k ++ setText y))))]) (fun y9 => []) (by kernel_rfl)
                · -- orders
                  refine ANx.take 0 rfl (by kernel_rfl) (by kernel_rfl) (by kernel_rfl) rfl rfl rfl (YldA.move rfl) ?_
                  refine ANx.take 1 rfl (by kernel_rfl) (by kernel_rfl) (by kernel_rfl) rfl rfl rfl (YldA.fieldAddr Tryd.underlying146 rfl rfl Tryd.sizeOf9 rfl rfl rfl) ?_
                  refine ANx.take 5 rfl (by kernel_rfl) (by kernel_rfl) (by kernel_rfl) rfl rfl rfl (YldA.fieldAddr Tryd.underlying146 rfl rfl Tryd.sizeOf2 rfl rfl rfl) ?_
                  refine ANx.all (rs := [2, 6]) (by kernel_rfl) rfl ⟨?_, ?_, trivial⟩
                  · -- 2
                    refine Stpx.eff rfl rfl (Eff.yld (Yld.load Tryd.isAgg9 rfl rfl) rfl rfl) ?_
                    refine ANx.all (rs := [3, 6]) (by kernel_rfl) rfl ⟨?_, ?_, trivial⟩
                    · -- 3
                      refine Stpx.eff rfl rfl (Eff.yld (Yld.cat rfl rfl (by first | (simp only [List.length_append, List.length_cons, List.length_nil]; omega) | omega)) rfl rfl) ?_
                      refine ANx.all (rs := [4, 6]) (by kernel_rfl) rfl ⟨?_, ?_, trivial⟩
                      · -- 4
                        refine Stpx.eff rfl rfl (Eff.yld (Yld.cat rfl rfl (by first | (simp only [List.length_append, List.length_cons, List.length_nil]; omega) | omega)) rfl rfl) ?_
                        refine ANx.all (rs := [6]) (by kernel_rfl) rfl ⟨?_, trivial⟩
                        refine Stpx.eff rfl rfl (Eff.yld (Yld.load Tryd.isAgg2 rfl rfl) rfl rfl) ?_
                        refine ANx.all (rs := [7]) (by kernel_rfl) rfl ⟨?_, trivial⟩
                        refine Stpx.effX rfl rfl (EffX.callW [0] [0] [0] rfl rfl Tryd.call86 rfl (impl_Decimal_c (by omega) (by omega)) (.own rfl) rfl (fun _ => rfl) ⟨rfl, trivial⟩ rfl (fun _ => rfl) (fun _ => rfl)) ?_
                        rintro _ ⟨⟨⟩, hu53, rfl⟩
                        refine ANx.all (rs := [8]) (by kernel_rfl) rfl ⟨?_, trivial⟩
                        refine Stpx.eff rfl rfl (Eff.yld (Yld.cat rfl rfl (by first | (simp only [List.length_append, List.length_cons, List.length_nil]; omega) | omega)) rfl rfl) ?_
                        refine ANx.all (rs := [9]) (by kernel_rfl) rfl ⟨?_, trivial⟩
                        refine Stpx.eff rfl rfl (Eff.yld (Yld.cat rfl rfl (by first | (simp only [List.length_append, List.length_cons, List.length_nil]; omega) | omega)) rfl rfl) ?_
                        refine ANx.take 10 rfl (by kernel_rfl) (by kernel_rfl) (by kernel_rfl) rfl rfl rfl (YldA.assign rfl) ?_
                        exact ANx.doneC () (by kernel_rfl) ⟨rfl, trivial⟩ trivial ⟨rfl, rfl, rfl, rfl, rfl, rfl, rfl, rfl, rfl, trivial⟩ ⟨rfl, rfl, rfl, rfl, trivial⟩
                      · -- 6
                        refine Stpx.eff rfl rfl (Eff.yld (Yld.load Tryd.isAgg2 rfl rfl) rfl rfl) ?_
                        refine ANx.all (rs := [4, 7]) (by kernel_rfl) rfl ⟨?_, ?_, trivial⟩
                        · -- 4
                          refine Stpx.eff rfl rfl (Eff.yld (Yld.cat rfl rfl (by first | (simp only [List.length_append, List.length_cons, List.length_nil]; omega) | omega)) rfl rfl) ?_
                          refine ANx.all (rs := [7]) (by kernel_rfl) rfl ⟨?_, trivial⟩
                          refine Stpx.effX rfl rfl (EffX.callW [0] [0] [0] rfl rfl Tryd.call86 rfl (impl_Decimal_c (by omega) (by omega)) (.own rfl) rfl (fun _ => rfl) ⟨rfl, trivial⟩ rfl (fun _ => rfl) (fun _ => rfl)) ?_
                          rintro _ ⟨⟨⟩, hu53, rfl⟩
                          refine ANx.all (rs := [8]) (by kernel_rfl) rfl ⟨?_, trivial⟩
                          refine Stpx.eff rfl rfl (Eff.yld (Yld.cat rfl rfl (by first | (simp only [List.length_append, List.length_cons, List.length_nil]; omega) | omega)) rfl rfl) ?_
                          refine ANx.all (rs := [9]) (by kernel_rfl) rfl ⟨?_, trivial⟩
                          refine Stpx.eff rfl rfl (Eff.yld (Yld.cat rfl rfl (by first | (simp only [List.length_append, List.length_cons, List.length_nil]; omega) | omega)) rfl rfl) ?_
                          refine ANx.take 10 rfl (by kernel_rfl) (by kernel_rfl) (by kernel_rfl) rfl rfl rfl (YldA.assign rfl) ?_
                          exact ANx.doneC () (by kernel_rfl) ⟨rfl, trivial⟩ trivial ⟨rfl, rfl, rfl, rfl, rfl, rfl, rfl, rfl, rfl, trivial⟩ ⟨rfl, rfl, rfl, rfl, trivial⟩
                        · -- 7
                          refine Stpx.effX rfl rfl (EffX.callW [0] [0] [0] rfl rfl Tryd.call86 rfl (impl_Decimal_c (by omega) (by omega)) (.own rfl) rfl (fun _ => rfl) ⟨rfl, trivial⟩ rfl (fun _ => rfl) (fun _ => rfl)) ?_
                          rintro _ ⟨⟨⟩, hu53, rfl⟩
                          refine ANx.all (rs := [4]) (by kernel_rfl) rfl ⟨?_, trivial⟩
                          refine Stpx.eff rfl rfl (Eff.yld (Yld.cat rfl rfl (by first | (simp only [List.length_append, List.length_cons, List.length_nil]; omega) | omega)) rfl rfl) ?_
                          refine ANx.all (rs := [8]) (by kernel_rfl) rfl ⟨?_, trivial⟩
                          refine Stpx.eff rfl rfl (Eff.yld (Yld.cat rfl rfl (by first | (simp only [List.length_append, List.length_cons, List.length_nil]; omega) | omega)) rfl rfl) ?_
                          refine ANx.all (rs := [9]) (by kernel_rfl) rfl ⟨?_, trivial⟩
                          refine Stpx.eff rfl rfl (Eff.yld (Yld.cat rfl rfl (by first | (simp only [List.length_append, List.length_cons, List.length_nil]; omega) | omega)) rfl rfl) ?_
                          refine ANx.take 10 rfl (by kernel_rfl) (by kernel_rfl) (by kernel_rfl) rfl rfl rfl (YldA.assign rfl) ?_
                          exact ANx.doneC () (by kernel_rfl) ⟨rfl, trivial⟩ trivial ⟨rfl, rfl, rfl, rfl, rfl, rfl, rfl, rfl, rfl, trivial⟩ ⟨rfl, rfl, rfl, rfl, trivial⟩
                    · -- 6
                      refine Stpx.eff rfl rfl (Eff.yld (Yld.load Tryd.isAgg2 rfl rfl) rfl rfl) ?_
                      refine ANx.all (rs := [3, 7]) (by kernel_rfl) rfl ⟨?_, ?_, trivial⟩
                      · -- 3
                        refine Stpx.eff rfl rfl (Eff.yld (Yld.cat rfl rfl (by first | (simp only [List.length_append, List.length_cons, List.length_nil]; omega) | omega)) rfl rfl) ?_
                        refine ANx.all (rs := [4, 7]) (by kernel_rfl) rfl ⟨?_, ?_, trivial⟩
                        · -- 4
                          refine Stpx.eff rfl rfl (Eff.yld (Yld.cat rfl rfl (by first | (simp only [List.length_append, List.length_cons, List.length_nil]; omega) | omega)) rfl rfl) ?_
                          refine ANx.all (rs := [7]) (by kernel_rfl) rfl ⟨?_, trivial⟩
                          refine Stpx.effX rfl rfl (EffX.callW [0] [0] [0] rfl rfl Tryd.call86 rfl (impl_Decimal_c (by omega) (by omega)) (.own rfl) rfl (fun _ => rfl) ⟨rfl, trivial⟩ rfl (fun _ => rfl) (fun _ => rfl)) ?_
                          rintro _ ⟨⟨⟩, hu53, rfl⟩
                          refine ANx.all (rs := [8]) (by kernel_rfl) rfl ⟨?_, trivial⟩
                          refine Stpx.eff rfl rfl (Eff.yld (Yld.cat rfl rfl (by first | (simp only [List.length_append, List.length_cons, List.length_nil]; omega) | omega)) rfl rfl) ?_
                          refine ANx.all (rs := [9]) (by kernel_rfl) rfl ⟨?_, trivial⟩
                          refine Stpx.eff rfl rfl (Eff.yld (Yld.cat rfl rfl (by first | (simp only [List.length_append, List.length_cons, List.length_nil]; omega) | omega)) rfl rfl) ?_
                          refine ANx.take 10 rfl (by kernel_rfl) (by kernel_rfl) (by kernel_rfl) rfl rfl rfl (YldA.assign rfl) ?_
                          exact ANx.doneC () (by kernel_rfl) ⟨rfl, trivial⟩ trivial ⟨rfl, rfl, rfl, rfl, rfl, rfl, rfl, rfl, rfl, trivial⟩ ⟨rfl, rfl, rfl, rfl, trivial⟩
                        · -- 7
                          refine Stpx.effX rfl rfl (EffX.callW [0] [0] [0] rfl rfl Tryd.call86 rfl (impl_Decimal_c (by omega) (by omega)) (.own rfl) rfl (fun _ => rfl) ⟨rfl, trivial⟩ rfl (fun _ => rfl) (fun _ => rfl)) ?_
                          rintro _ ⟨⟨⟩, hu53, rfl⟩
                          refine ANx.all (rs := [4]) (by kernel_rfl) rfl ⟨?_, trivial⟩
                          refine Stpx.eff rfl rfl (Eff.yld (Yld.cat rfl rfl (by first | (simp only [List.length_append, List.length_cons, List.length_nil]; omega) | omega)) rfl rfl) ?_
                          refine ANx.all (rs := [8]) (by kernel_rfl) rfl ⟨?_, trivial⟩
                          refine Stpx.eff rfl rfl (Eff.yld (Yld.cat rfl rfl (by first | (simp only [List.length_append, List.length_cons, List.length_nil]; omega) | omega)) rfl rfl) ?_
                          refine ANx.all (rs := [9]) (by kernel_rfl) rfl ⟨?_, trivial⟩
                          refine Stpx.eff rfl rfl (Eff.yld (Yld.cat rfl rfl (by first | (simp only [List.length_append, List.length_cons, List.length_nil]; omega) | omega)) rfl rfl) ?_
                          refine ANx.take 10 rfl (by kernel_rfl) (by kernel_rfl) (by kernel_rfl) rfl rfl rfl (YldA.assign rfl) ?_
                          exact ANx.doneC () (by kernel_rfl) ⟨rfl, trivial⟩ trivial ⟨rfl, rfl, rfl, rfl, rfl, rfl, rfl, rfl, rfl, trivial⟩ ⟨rfl, rfl, rfl, rfl, trivial⟩
                      · -- 7
                        refine Stpx.effX rfl rfl (EffX.callW [0] [0] [0] rfl rfl Tryd.call86 rfl (impl_Decimal_c (by omega) (by omega)) (.own rfl) rfl (fun _ => rfl) ⟨rfl, trivial⟩ rfl (fun _ => rfl) (fun _ => rfl)) ?_
                        rintro _ ⟨⟨⟩, hu53, rfl⟩
                        refine ANx.all (rs := [3]) (by kernel_rfl) rfl ⟨?_, trivial⟩
                        refine Stpx.eff rfl rfl (Eff.yld (Yld.cat rfl rfl (by first | (simp only [List.length_append, List.length_cons, List.length_nil]; omega) | omega)) rfl rfl) ?_
                        refine ANx.all (rs := [4]) (by kernel_rfl) rfl ⟨?_, trivial⟩
                        refine Stpx.eff rfl rfl (Eff.yld (Yld.cat rfl rfl (by first | (simp only [List.length_append, List.length_cons, List.length_nil]; omega) | omega)) rfl rfl) ?_
                        refine ANx.all (rs := [8]) (by kernel_rfl) rfl ⟨?_, trivial⟩
                        refine Stpx.eff rfl rfl (Eff.yld (Yld.cat rfl rfl (by first | (simp only [List.length_append, List.length_cons, List.length_nil]; omega) | omega)) rfl rfl) ?_
                        refine ANx.all (rs := [9]) (by kernel_rfl) rfl ⟨?_, trivial⟩
                        refine Stpx.eff rfl rfl (Eff.yld (Yld.cat rfl rfl (by first | (simp only [List.length_append, List.length_cons, List.length_nil]; omega) | omega)) rfl rfl) ?_
                        refine ANx.take 10 rfl (by kernel_rfl) (by kernel_rfl) (by kernel_rfl) rfl rfl rfl (YldA.assign rfl) ?_
                        exact ANx.doneC () (by kernel_rfl) ⟨rfl, trivial⟩ trivial ⟨rfl, rfl, rfl, rfl, rfl, rfl, rfl, rfl, rfl, trivial⟩ ⟨rfl, rfl, rfl, rfl, trivial⟩
                  · -- 6
                    refine Stpx.eff rfl rfl (Eff.yld (Yld.load Tryd.isAgg2 rfl rfl) rfl rfl) ?_
                    refine ANx.all (rs := [2, 7]) (by kernel_rfl) rfl ⟨?_, ?_, trivial⟩
                    · -- 2
                      refine Stpx.eff rfl rfl (Eff.yld (Yld.load Tryd.isAgg9 rfl rfl) rfl rfl) ?_
                      refine ANx.all (rs := [3, 7]) (by kernel_rfl) rfl ⟨?_, ?_, trivial⟩
                      · -- 3
                        refine Stpx.eff rfl rfl (Eff.yld (Yld.cat rfl rfl (by first | (simp only [List.length_append, List.length_cons, List.length_nil]; omega) | omega)) rfl rfl) ?_
                        refine ANx.all (rs := [4, 7]) (by kernel_rfl) rfl ⟨?_, ?_, trivial⟩
                        · -- 4
                          refine Stpx.eff rfl rfl (Eff.yld (Yld.cat rfl rfl (by first | (simp only [List.length_append, List.length_cons, List.length_nil]; omega) | omega)) rfl rfl) ?_
                          refine ANx.all (rs := [7]) (by kernel_rfl) rfl ⟨?_, trivial⟩
                          refine Stpx.effX rfl rfl (EffX.callW [0] [0] [0] rfl rfl Tryd.call86 rfl (impl_Decimal_c (by omega) (by omega)) (.own rfl) rfl (fun _ => rfl) ⟨rfl, trivial⟩ rfl (fun _ => rfl) (fun _ => rfl)) ?_
                          rintro _ ⟨⟨⟩, hu53, rfl⟩
                          refine ANx.all (rs := [8]) (by kernel_rfl) rfl ⟨?_, trivial⟩
                          refine Stpx.eff rfl rfl (Eff.yld (Yld.cat rfl rfl (by first | (simp only [List.length_append, List.length_cons, List.length_nil]; omega) | omega)) rfl rfl) ?_
                          refine ANx.all (rs := [9]) (by kernel_rfl) rfl ⟨?_, trivial⟩
                          refine Stpx.eff rfl rfl (Eff.yld (Yld.cat rfl rfl (by first | (simp only [List.length_append, List.length_cons, List.length_nil]; omega) | omega)) rfl rfl) ?_
                          refine ANx.take 10 rfl (by kernel_rfl) (by kernel_rfl) (by kernel_rfl) rfl rfl rfl (YldA.assign rfl) ?_
                          exact ANx.doneC () (by kernel_rfl) ⟨rfl, trivial⟩ trivial ⟨rfl, rfl, rfl, rfl, rfl, rfl, rfl, rfl, rfl, trivial⟩ ⟨rfl, rfl, rfl, rfl, trivial⟩
                        · -- 7
                          refine Stpx.effX rfl rfl (EffX.callW [0] [0] [0] rfl rfl Tryd.call86 rfl (impl_Decimal_c (by omega) (by omega)) (.own rfl) rfl (fun _ => rfl) ⟨rfl, trivial⟩ rfl (fun _ => rfl) (fun _ => rfl)) ?_
                          rintro _ ⟨⟨⟩, hu53, rfl⟩
                          refine ANx.all (rs := [4]) (by kernel_rfl) rfl ⟨?_, trivial⟩
                          refine Stpx.eff rfl rfl (Eff.yld (Yld.cat rfl rfl (by first | (simp only [List.length_append, List.length_cons, List.length_nil]; omega) | omega)) rfl rfl) ?_
                          refine ANx.all (rs := [8]) (by kernel_rfl) rfl ⟨?_, trivial⟩
                          refine Stpx.eff rfl rfl (Eff.yld (Yld.cat rfl rfl (by first | (simp only [List.length_append, List.length_cons, List.length_nil]; omega) | omega)) rfl rfl) ?_
                          refine ANx.all (rs := [9]) (by kernel_rfl) rfl ⟨?_, trivial⟩
                          refine Stpx.eff rfl rfl (Eff.yld (Yld.cat rfl rfl (by first | (simp only [List.length_append, List.length_cons, List.length_nil]; omega) | omega)) rfl rfl) ?_
                          refine ANx.take 10 rfl (by kernel_rfl) (by kernel_rfl) (by kernel_rfl) rfl rfl rfl (YldA.assign rfl) ?_
                          exact ANx.doneC () (by kernel_rfl) ⟨rfl, trivial⟩ trivial ⟨rfl, rfl, rfl, rfl, rfl, rfl, rfl, rfl, rfl, trivial⟩ ⟨rfl, rfl, rfl, rfl, trivial⟩
                      · -- 7
                        refine Stpx.effX rfl rfl (EffX.callW [0] [0] [0] rfl rfl Tryd.call86 rfl (impl_Decimal_c (by omega) (by omega)) (.own rfl) rfl (fun _ => rfl) ⟨rfl, trivial⟩ rfl (fun _ => rfl) (fun _ => rfl)) ?_
                        rintro _ ⟨⟨⟩, hu53, rfl⟩
                        refine ANx.all (rs := [3]) (by kernel_rfl) rfl ⟨?_, trivial⟩
                        refine Stpx.eff rfl rfl (Eff.yld (Yld.cat rfl rfl (by first | (simp only [List.length_append, List.length_cons, List.length_nil]; omega) | omega)) rfl rfl) ?_
                        refine ANx.all (rs := [4]) (by kernel_rfl) rfl ⟨?_, trivial⟩
                        refine Stpx.eff rfl rfl (Eff.yld (Yld.cat rfl rfl (by first | (simp only [List.length_append, List.length_cons, List.length_nil]; omega) | omega)) rfl rfl) ?_
                        refine ANx.all (rs := [8]) (by kernel_rfl) rfl ⟨?_, trivial⟩
                        refine Stpx.eff rfl rfl (Eff.yld (Yld.cat rfl rfl (by first | (simp only [List.length_append, List.length_cons, List.length_nil]; omega) | omega)) rfl rfl) ?_
                        refine ANx.all (rs := [9]) (by kernel_rfl) rfl ⟨?_, trivial⟩
                        refine Stpx.eff rfl rfl (Eff.yld (Yld.cat rfl rfl (by first | (simp only [List.length_append, List.length_cons, List.length_nil]; omega) | omega)) rfl rfl) ?_
                        refine ANx.take 10 rfl (by kernel_rfl) (by kernel_rfl) (by kernel_rfl) rfl rfl rfl (YldA.assign rfl) ?_
                        exact ANx.doneC () (by kernel_rfl) ⟨rfl, trivial⟩ trivial ⟨rfl, rfl, rfl, rfl, rfl, rfl, rfl, rfl, rfl, trivial⟩ ⟨rfl, rfl, rfl, rfl, trivial⟩
                    · -- 7
                      refine Stpx.effX rfl rfl (EffX.callW [0] [0] [0] rfl rfl Tryd.call86 rfl (impl_Decimal_c (by omega) (by omega)) (.own rfl) rfl (fun _ => rfl) ⟨rfl, trivial⟩ rfl (fun _ => rfl) (fun _ => rfl)) ?_
                      rintro _ ⟨⟨⟩, hu53, rfl⟩
                      refine ANx.all (rs := [2]) (by kernel_rfl) rfl ⟨?_, trivial⟩
                      refine Stpx.eff rfl rfl (Eff.yld (Yld.load Tryd.isAgg9 rfl rfl) rfl rfl) ?_
                      refine ANx.all (rs := [3]) (by kernel_rfl) rfl ⟨?_, trivial⟩
                      refine Stpx.eff rfl rfl (Eff.yld (Yld.cat rfl rfl (by first | (simp only [List.length_append, List.length_cons, List.length_nil]; omega) | omega)) rfl rfl) ?_
                      refine ANx.all (rs := [4]) (by kernel_rfl) rfl ⟨?_, trivial⟩
                      refine Stpx.eff rfl rfl (Eff.yld (Yld.cat rfl rfl (by first | (simp only [List.length_append, List.length_cons, List.length_nil]; omega) | omega)) rfl rfl) ?_
                      refine ANx.all (rs := [8]) (by kernel_rfl) rfl ⟨?_, trivial⟩
                      refine Stpx.eff rfl rfl (Eff.yld (Yld.cat rfl rfl (by first | (simp only [List.length_append, List.length_cons, List.length_nil]; omega) | omega)) rfl rfl) ?_
                      refine ANx.all (rs := [9]) (by kernel_rfl) rfl ⟨?_, trivial⟩
                      refine Stpx.eff rfl rfl (Eff.yld (Yld.cat rfl rfl (by first | (simp only [List.length_append, List.length_cons, List.length_nil]; omega) | omega)) rfl rfl) ?_
                      refine ANx.take 10 rfl (by kernel_rfl) (by kernel_rfl) (by kernel_rfl) rfl rfl rfl (YldA.assign rfl) ?_
                      exact ANx.doneC () (by kernel_rfl) ⟨rfl, trivial⟩ trivial ⟨rfl, rfl, rfl, rfl, rfl, rfl, rfl, rfl, rfl, trivial⟩ ⟨rfl, rfl, rfl, rfl, trivial⟩
                · -- behind
                  rintro y9
                  refine AC.mark ?_
                  refine AC.region ?_
                  refine AO.yld _ (Yld.add rfl rfl (by first | (simp only [List.length_append, List.length_cons, List.length_nil]; omega) | omega) (by first | (simp only [List.length_append, List.length_cons, List.length_nil]; omega) | omega)) rfl rfl rfl ?_
                  refine AO.yld _ (Yld.move rfl) rfl rfl rfl ?_
                  refine AO.nil ?_
                  refine AC.back ⟨k + 1, ?_, ?_, ⟨?_, ?_, trivial⟩, trivial, ⟨rfl, rfl, rfl, rfl, trivial⟩, ⟨rfl, rfl, rfl, trivial⟩⟩
                  · exact hk
                  · omega
                  · rfl
                  · rw [verTo_succ hx]; rfl
              · -- c43 False
                obtain rfl : k = x.state.length := by have := ge_of_decM c43; omega
                refine AC.exit rfl ?_
                refine AC.seq ?_
                refine AC.seq ?_
                refine AC.region ?_
                refine AO.yld _ (Yld.fieldAddr Tryd.underlying74 rfl rfl Tryd.sizeOf9 rfl rfl rfl) rfl rfl rfl ?_
                refine AO.yld _ (Yld.load Tryd.isAgg9 rfl rfl) rfl rfl rfl ?_
                refine AO.yld _ (Yld.cmpStr rfl rfl rfl) rfl rfl rfl ?_
                refine AO.nil ?_
                refine AC.cond _ rfl (fun c59 => ?_) (fun c59 => ?_)
                · -- c59 True
                  have hmm : ¬ x.memo = [] := by simpa using c59
                  refine AC.region ?_
                  refine AO.yld _ (Yld.move rfl) rfl rfl rfl ?_
                  refine AO.yld _ (Yld.fieldAddr Tryd.underlying74 rfl rfl Tryd.sizeOf9 rfl rfl rfl) rfl rfl rfl ?_
                  refine AO.yld _ (Yld.load Tryd.isAgg9 rfl rfl) rfl rfl rfl ?_
                  refine AO.yld _ (Yld.cat rfl rfl (by first | (simp only [List.length_append, List.length_cons, List.length_nil]; omega) | omega)) rfl rfl rfl ?_
                  refine AO.yld _ (Yld.cat rfl rfl (by first | (simp only [List.length_append, List.length_cons, List.length_nil]; omega) | omega)) rfl rfl rfl ?_
                  refine AO.yld _ (Yld.assign rfl) rfl rfl rfl ?_
                  refine AO.nil ?_
                  refine AC.seq ?_
                  refine AC.region ?_
                  refine AO.yld _ (Yld.move rfl) rfl rfl rfl ?_
                  refine AO.yld _ (Yld.assign rfl) rfl rfl rfl ?_
                  refine AO.nil ?_
                  refine FnE.ret () [0] [0] Tryd.results38 (RVs.cons (RV.tmp rfl) RVs.nil) rfl rfl rfl ?_ ?_ ⟨⟨_, rfl, ?_⟩, trivial⟩
                  · -- holds
                    trivial
                  · -- value
                    first
                      | (unfold verText memoText; rw [if_pos hok, if_pos hmm, List.append_nil]; first | done | rfl)
                      | (unfold verText memoText; rw [if_pos hok, if_pos hmm]; simp; done)
                      | (unfold verText memoText; rw [if_pos hok, if_neg hmm]; done)
                      | (unfold verText memoText; rw [if_pos hok, if_neg hmm]; rfl)
                      | (unfold verText; rw [if_neg hno]; rfl)
                      | (unfold verText; rw [if_neg hno]; done)
                  · -- thing 0
                    first | rfl | exact vecE (by first | rfl | (simp_all; done) | grind) | (simp_all; done)
                · -- c59 False
                  have hmm : x.memo = [] := by simpa using c59
                  refine AC.skip ?_
                  refine AC.seq ?_
                  refine AC.region ?_
                  refine AO.yld _ (Yld.move rfl) rfl rfl rfl ?_
                  refine AO.yld _ (Yld.assign rfl) rfl rfl rfl ?_
                  refine AO.nil ?_
                  refine FnE.ret () [0] [0] Tryd.results38 (RVs.cons (RV.tmp rfl) RVs.nil) rfl rfl rfl ?_ ?_ ⟨⟨_, rfl, ?_⟩, trivial⟩
                  · -- holds
                    trivial
                  · -- value
                    first
                      | (unfold verText memoText; rw [if_pos hok, if_pos hmm, List.append_nil]; first | done | rfl)
                      | (unfold verText memoText; rw [if_pos hok, if_pos hmm]; simp; done)
                      | (unfold verText memoText; rw [if_pos hok, if_neg hmm]; done)
                      | (unfold verText memoText; rw [if_pos hok, if_neg hmm]; rfl)
                      | (unfold verText; rw [if_neg hno]; rfl)
                      | (unfold verText; rw [if_neg hno]; done)
                  · -- thing 0
                    first | rfl | exact vecE (by first | rfl | (simp_all; done) | grind) | (simp_all; done)

end Go.Proofs.YtdgjlkdcklfieaaDoor
