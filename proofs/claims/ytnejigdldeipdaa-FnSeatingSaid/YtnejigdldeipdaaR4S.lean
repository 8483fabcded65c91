/- Contracts of functions of the program, each by a walk of its text in the calculus V. -/
import Derived.Test.YtnejigdldeipdaaCD
set_option linter.all false
set_option linter.unusedSimpArgs false
set_option linter.unnecessarySimpa false
set_option linter.unusedVariables false
namespace Go.Proofs.Ytnejigdldeipdaa
open Go Go.V

set_option maxHeartbeats 2000000 in
theorem laws_FnSeating_c {code : List UInt8} :
    Pure Try.prog 6 [.sl 1 (code.map encB)] (.v (.bool true)) := by
  refine Pure.intro Try.func6 rfl Try.ntmps6 rfl rfl (fun w => ?_)
  refine AC.seq ?_
  refine AC.region ?_
  refine AO.yld _ (Yld.assign rfl) rfl rfl rfl ?_
  refine AO.nil ?_
  refine AC.seq ?_
  refine AC.seq ?_
  refine AC.region ?_
  refine AO.yld _ (Yld.move rfl) rfl rfl rfl ?_
  refine AO.yld _ (Yld.call rfl rfl Try.call22 rfl rfl rfl (laws_b10Long_c) rfl) rfl rfl rfl ?_
  refine AO.nil ?_
  refine AC.cond _ rfl (fun c22 => ?_) (fun c22 => ?_)
  · -- c22 True
    refine AC.seq ?_
    refine AC.region ?_
    refine AO.yld _ (Yld.assign rfl) rfl rfl rfl ?_
    refine AO.nil ?_
    refine Pure.ret Try.results6 (RVs.cons (RV.tmp rfl) RVs.nil) rfl ?_
    first
      | rfl
      | (refine cb ?_; rw [first_bad hbad]; rfl)
      | (refine cb ?_; rw [first_bad hbad]; simp; done)
      | (refine cb ?_; rw [(m0 hM0).2]; simp; done)
      | (refine cb ?_; have h3 := m5 hM0 (by simpa using s155); rw [g2]; simp; omega)
      | (simp_all; done)
      | fail
  · -- c22 False
    refine AC.skip ?_
    refine AC.seq ?_
    refine AC.region ?_
    refine AO.yld _ (Yld.move rfl) rfl rfl rfl ?_
    refine AO.callW (wantedN rfl) [0, 1] [] [0, 1] rfl rfl Try.call23 rfl (spec_DrawMostSeated_c) (.own rfl) rfl (fun ⟨_, _, _⟩ => rfl) trivial rfl (fun ⟨_, _, _⟩ => rfl) (fun ⟨_, _, _⟩ => rfl) (fun ⟨gs25, rs25, b25⟩ hgs25 => ?_)
    dsimp only at hgs25
    have hn9 : gs25.length ≤ 1048576 := by have := hgs25.1.1; omega
    have hs9 := drawnG_names hgs25.1
    have hr9 : rs25.length ≤ 1048576 := by have := hgs25.2; omega
    have hl91 : (greedyS gs25 rs25).1.length ≤ 1048576 := by have := greedy_len gs25 rs25; omega
    have hl92 : (firstSeating gs25 rs25 b25).1.length ≤ 1048576 := by have := first_len gs25 rs25 b25; omega
    have hl93 : (mostSeated gs25 rs25 b25).1.length ≤ 1048576 := by have := most_len gs25 rs25 b25; omega
    refine AO.yld _ (Yld.move rfl) rfl rfl rfl ?_
    refine AO.yld _ (Yld.extract rfl rfl rfl) rfl rfl rfl ?_
    refine AO.yld _ (Yld.extract rfl rfl rfl) rfl rfl rfl ?_
    refine AO.yld _ (Yld.extract rfl rfl rfl) rfl rfl rfl ?_
    refine AO.yld _ (Yld.assign rfl) rfl rfl rfl ?_
    refine AO.yld _ (Yld.assign rfl) rfl rfl rfl ?_
    refine AO.yld _ (Yld.assign rfl) rfl rfl rfl ?_
    refine AO.nil ?_
    refine AC.seq ?_
    refine AC.region ?_
    refine AO.yld _ (Yld.move rfl) rfl rfl rfl ?_
    refine AO.yld _ (Yld.move rfl) rfl rfl rfl ?_
    refine AO.yld _ (Yld.move rfl) rfl rfl rfl ?_
    refine AO.callW (wantedN rfl) [2] [] [0] rfl rfl Try.call19 rfl (impl_MostSeated_c (by first | assumption | omega) (by assumption) (by first | assumption | omega)) (.flat (.view rfl rfl (.view rfl rfl (.view rfl rfl .nil))) (fun _ => by simp [AV.Flat, AV.FlatL, PV.Flat, PV.FlatL]) (fun _ => ⟨flat_map flatI _, trivial⟩)) rfl (fun _ => rfl) trivial rfl (fun _ => rfl) (fun _ => rfl) (fun _ _ => ?_)
    refine AO.yld _ (Yld.move rfl) rfl rfl rfl ?_
    refine AO.yld _ (Yld.extract rfl rfl rfl) rfl rfl rfl ?_
    refine AO.yld _ (Yld.extract rfl rfl rfl) rfl rfl rfl ?_
    refine AO.yld _ (Yld.extract rfl rfl rfl) rfl rfl rfl ?_
    refine AO.yld _ (Yld.assign rfl) rfl rfl rfl ?_
    refine AO.yld _ (Yld.assign rfl) rfl rfl rfl ?_
    refine AO.yld _ (Yld.assign rfl) rfl rfl rfl ?_
    refine AO.nil ?_
    refine AC.seq ?_
    refine AC.region ?_
    refine AO.yld _ (Yld.move rfl) rfl rfl rfl ?_
    refine AO.yld _ (Yld.move rfl) rfl rfl rfl ?_
    refine AO.callW (wantedN rfl) [3] [] [0] rfl rfl Try.call21 rfl (impl_GreedySeating_c (by first | assumption | omega) (by assumption) (by first | assumption | omega)) (.flat (.view rfl rfl (.view rfl rfl .nil)) (fun _ => by simp [AV.Flat, AV.FlatL, PV.Flat, PV.FlatL]) (fun _ => ⟨flat_map flatI _, trivial⟩)) rfl (fun _ => rfl) trivial rfl (fun _ => rfl) (fun _ => rfl) (fun _ _ => ?_)
    refine AO.yld _ (Yld.move rfl) rfl rfl rfl ?_
    refine AO.yld _ (Yld.extract rfl rfl rfl) rfl rfl rfl ?_
    refine AO.yld _ (Yld.extract rfl rfl rfl) rfl rfl rfl ?_
    refine AO.yld _ (Yld.assign rfl) rfl rfl rfl ?_
    refine AO.yld _ (Yld.assign rfl) rfl rfl rfl ?_
    refine AO.nil ?_
    refine AC.seq ?_
    refine AC.region ?_
    refine AO.yld _ (Yld.move rfl) rfl rfl rfl ?_
    refine AO.yld _ (Yld.move rfl) rfl rfl rfl ?_
    refine AO.yld _ (Yld.move rfl) rfl rfl rfl ?_
    refine AO.callW (wantedN rfl) [4] [] [0] rfl rfl Try.call12 rfl (impl_FirstSeating_c (by first | assumption | omega) (by assumption) (by first | assumption | omega)) (.flat (.view rfl rfl (.view rfl rfl (.view rfl rfl .nil))) (fun _ => by simp [AV.Flat, AV.FlatL, PV.Flat, PV.FlatL]) (fun _ => ⟨flat_map flatI _, trivial⟩)) rfl (fun _ => rfl) trivial rfl (fun _ => rfl) (fun _ => rfl) (fun _ _ => ?_)
    refine AO.yld _ (Yld.move rfl) rfl rfl rfl ?_
    refine AO.yld _ (Yld.extract rfl rfl rfl) rfl rfl rfl ?_
    refine AO.yld _ (Yld.extract rfl rfl rfl) rfl rfl rfl ?_
    refine AO.yld _ (Yld.assign rfl) rfl rfl rfl ?_
    refine AO.yld _ (Yld.assign rfl) rfl rfl rfl ?_
    refine AO.nil ?_
    refine AC.seq ?_
    refine AC.seq ?_
    refine AC.region ?_
    refine AO.yld _ (Yld.move rfl) rfl rfl rfl ?_
    refine AO.yld _ (Yld.int rfl rfl rfl) rfl rfl rfl ?_
    refine AO.nil ?_
    refine AC.cond _ rfl (fun c51 => ?_) (fun c51 => ?_)
    · -- c51 True
      have hbad : ¬ (okGroups gs25 = true ∧ okRows rs25 = true) := fun hv => by have h := c51; rw [greedy_run hv] at h; simp at h
      refine AC.seq ?_
      refine AC.region ?_
      refine AO.yld _ (Yld.move rfl) rfl rfl rfl ?_
      refine AO.yld _ (Yld.len Try.underlying23 rfl rfl) rfl rfl rfl ?_
      refine AO.yld _ (Yld.int rfl rfl rfl) rfl rfl rfl ?_
      refine AO.yld _ (Yld.move rfl) rfl rfl rfl ?_
      refine AO.splitAt 55 _ rfl (fun s55 => ?_) (fun s55 => ?_)
      · -- s55 True
        refine AO.yldG _ (Yld.move rfl) rfl rfl rfl rfl rfl ?_
        refine AO.yldG _ (Yld.len Try.underlying23 rfl rfl) rfl rfl rfl rfl rfl ?_
        refine AO.yldG _ (Yld.int rfl rfl rfl) rfl rfl rfl rfl rfl ?_
        refine AO.yld _ (Yld.pickT rfl rfl) rfl rfl rfl ?_
        refine AO.yld _ (Yld.assign rfl) rfl rfl rfl ?_
        refine AO.nil ?_
        refine Pure.ret Try.results6 (RVs.cons (RV.tmp rfl) RVs.nil) rfl ?_
        first
          | rfl
          | (refine cb ?_; rw [first_bad hbad]; rfl)
          | (refine cb ?_; rw [first_bad hbad]; simp; done)
          | (refine cb ?_; rw [(m0 hM0).2]; simp; done)
          | (refine cb ?_; have h3 := m5 hM0 (by simpa using s155); rw [g2]; simp; omega)
          | (simp_all; done)
          | fail
      · -- s55 False
        exfalso; have h := s55; rw [most_bad hbad] at h; simp at h
    · -- c51 False
      have hv : okGroups gs25 = true ∧ okRows rs25 = true := Decidable.byContradiction (fun hv => by have h := c51; rw [greedy_bad hv] at h; simp at h)
      obtain ⟨g1, g2, g3, f1, f2, m0, m1, m2, m3, m4, m5⟩ := seat_facts hv b25
      refine AC.skip ?_
      refine AC.seq ?_
      refine AC.region ?_
      refine AO.yld _ (Yld.move rfl) rfl rfl rfl ?_
      refine AO.yld _ (Yld.move rfl) rfl rfl rfl ?_
      refine AO.yld _ (Yld.call rfl rfl Try.call24 rfl rfl rfl (impl_SeatedPersons_c (by first | assumption | omega) (by assumption) (by first | assumption | omega)) rfl) rfl rfl rfl ?_
      refine AO.yld _ (Yld.move rfl) rfl rfl rfl ?_
      refine AO.yld _ (Yld.extract rfl rfl rfl) rfl rfl rfl ?_
      refine AO.yld _ (Yld.extract rfl rfl rfl) rfl rfl rfl ?_
      refine AO.yld _ (Yld.assign rfl) rfl rfl rfl ?_
      refine AO.yld _ (Yld.assign rfl) rfl rfl rfl ?_
      refine AO.nil ?_
      refine AC.seq ?_
      refine AC.region ?_
      refine AO.yld _ (Yld.move rfl) rfl rfl rfl ?_
      refine AO.yld _ (Yld.call rfl rfl Try.call25 rfl rfl rfl (impl_SeatsNeeded_c (by first | assumption | omega) (by assumption)) rfl) rfl rfl rfl ?_
      refine AO.yld _ (Yld.move rfl) rfl rfl rfl ?_
      refine AO.yld _ (Yld.extract rfl rfl rfl) rfl rfl rfl ?_
      refine AO.yld _ (Yld.extract rfl rfl rfl) rfl rfl rfl ?_
      refine AO.yld _ (Yld.assign rfl) rfl rfl rfl ?_
      refine AO.yld _ (Yld.assign rfl) rfl rfl rfl ?_
      refine AO.nil ?_
      refine AC.seq ?_
      refine AC.seq ?_
      refine AC.region ?_
      refine AO.yld _ (Yld.move rfl) rfl rfl rfl ?_
      refine AO.yld _ (Yld.move rfl) rfl rfl rfl ?_
      refine AO.yld _ (Yld.move rfl) rfl rfl rfl ?_
      refine AO.yld _ (Yld.call rfl rfl Try.call26 rfl rfl rfl (impl_IsSeating_c (by first | assumption | omega) (by assumption) (by first | assumption | omega) (by first | assumption | omega)) rfl) rfl rfl rfl ?_
      refine AO.yld _ (Yld.not rfl) rfl rfl rfl ?_
      refine AO.yld _ (Yld.move rfl) rfl rfl rfl ?_
      refine AO.splitAt 76 _ rfl (fun s76 => ?_) (fun s76 => ?_)
      · -- s76 True
        exfalso; have h := s76; rw [g3] at h; simp at h
      · -- s76 False
        refine AO.yldG _ (Yld.move rfl) rfl rfl rfl rfl rfl ?_
        refine AO.yldG _ (Yld.int rfl rfl rfl) rfl rfl rfl rfl rfl ?_
        refine AO.yld _ (Yld.pickF rfl rfl) rfl rfl rfl ?_
        refine AO.yld _ (Yld.move rfl) rfl rfl rfl ?_
        refine AO.splitAt 80 _ rfl (fun s80 => ?_) (fun s80 => ?_)
        · -- s80 True
          exfalso; have h := s80; rw [g1] at h; simp at h
        · -- s80 False
          refine AO.yldG _ (Yld.move rfl) rfl rfl rfl rfl rfl ?_
          refine AO.yldG _ (Yld.int rfl rfl rfl) rfl rfl rfl rfl rfl ?_
          refine AO.yld _ (Yld.pickF rfl rfl) rfl rfl rfl ?_
          refine AO.yld _ (Yld.move rfl) rfl rfl rfl ?_
          refine AO.splitAt 84 _ rfl (fun s84 => ?_) (fun s84 => ?_)
          · -- s84 True
            exfalso; have h := s84; rw [g2] at h; simp at h
          · -- s84 False
            refine AO.yldG _ (Yld.move rfl) rfl rfl rfl rfl rfl ?_
            refine AO.yldG _ (Yld.int rfl rfl rfl) rfl rfl rfl rfl rfl ?_
            refine AO.yldG _ (Yld.move rfl) rfl rfl rfl rfl rfl ?_
            refine AO.splitAt 87 _ rfl (fun s87 => ?_) (fun s87 => ?_)
            · -- s87 True
              refine AO.yldG _ (Yld.move rfl) rfl rfl rfl rfl rfl ?_
              refine AO.yldG _ (Yld.move rfl) rfl rfl rfl rfl rfl ?_
              refine AO.yldG _ (Yld.move rfl) rfl rfl rfl rfl rfl ?_
              refine AO.yldG _ (Yld.call rfl rfl Try.call26 rfl rfl rfl (impl_IsSeating_c (by first | assumption | omega) (by assumption) (by first | assumption | omega) (by first | assumption | omega)) rfl) rfl rfl rfl rfl rfl ?_
              refine AO.yldG _ (Yld.not rfl) rfl rfl rfl rfl rfl ?_
              refine AO.yldG _ (Yld.pickT rfl rfl) rfl rfl rfl rfl rfl ?_
              refine AO.yld _ (Yld.pickF rfl rfl) rfl rfl rfl ?_
              refine AO.nil ?_
              refine AC.cond _ rfl (fun c94 => ?_) (fun c94 => ?_)
              · -- c94 True
                exfalso; have h := c94; rw [f1 (by simpa using s87)] at h; simp at h
              · -- c94 False
                refine AC.skip ?_
                refine AC.seq ?_
                refine AC.seq ?_
                refine AC.region ?_
                refine AO.yld _ (Yld.move rfl) rfl rfl rfl ?_
                refine AO.yld _ (Yld.int rfl rfl rfl) rfl rfl rfl ?_
                refine AO.nil ?_
                refine AC.cond _ rfl (fun c96 => ?_) (fun c96 => ?_)
                · -- c96 True
                  refine AC.seq ?_
                  refine AC.region ?_
                  refine AO.yld _ (Yld.move rfl) rfl rfl rfl ?_
                  refine AO.yld _ (Yld.move rfl) rfl rfl rfl ?_
                  refine AO.yld _ (Yld.call rfl rfl Try.call24 rfl rfl rfl (impl_SeatedPersons_c (by first | assumption | omega) (by assumption) (by first | assumption | omega)) rfl) rfl rfl rfl ?_
                  refine AO.yld _ (Yld.move rfl) rfl rfl rfl ?_
                  refine AO.yld _ (Yld.extract rfl rfl rfl) rfl rfl rfl ?_
                  refine AO.yld _ (Yld.extract rfl rfl rfl) rfl rfl rfl ?_
                  refine AO.yld _ (Yld.assign rfl) rfl rfl rfl ?_
                  refine AO.yld _ (Yld.assign rfl) rfl rfl rfl ?_
                  refine AO.nil ?_
                  refine AC.seq ?_
                  refine AC.region ?_
                  refine AO.yld _ (Yld.move rfl) rfl rfl rfl ?_
                  refine AO.yld _ (Yld.int rfl rfl rfl) rfl rfl rfl ?_
                  refine AO.yld _ (Yld.move rfl) rfl rfl rfl ?_
                  refine AO.splitAt 105 _ rfl (fun s105 => ?_) (fun s105 => ?_)
                  · -- s105 True
                    exfalso; have h := s105; rw [f2 (by simpa using c96)] at h; simp at h
                  · -- s105 False
                    refine AO.yldG _ (Yld.move rfl) rfl rfl rfl rfl rfl ?_
                    refine AO.yldG _ (Yld.move rfl) rfl rfl rfl rfl rfl ?_
                    refine AO.yldG _ (Yld.int rfl rfl rfl) rfl rfl rfl rfl rfl ?_
                    refine AO.yld _ (Yld.pickF rfl rfl) rfl rfl rfl ?_
                    refine AO.nil ?_
                    refine AC.cond _ rfl (fun c109 => ?_) (fun c109 => ?_)
                    · -- c109 True
                      exfalso; have h := c109; rw [f2 (by simpa using c96), g2] at h; simp at h
                    · -- c109 False
                      skip
                      refine AC.skip ?_
                      refine AC.seq ?_
                      refine AC.seq ?_
                      refine AC.region ?_
                      refine AO.yld _ (Yld.move rfl) rfl rfl rfl ?_
                      refine AO.yld _ (Yld.int rfl rfl rfl) rfl rfl rfl ?_
                      refine AO.nil ?_
                      refine AC.cond _ rfl (fun c111 => ?_) (fun c111 => ?_)
                      · -- c111 True
                        have hM0 : (mostSeated gs25 rs25 b25).2.2 ≠ 0 := by have h := c111; simp at h; exact h
                        refine AC.seq ?_
                        refine AC.region ?_
                        refine AO.yld _ (Yld.move rfl) rfl rfl rfl ?_
                        refine AO.yld _ (Yld.len Try.underlying23 rfl rfl) rfl rfl rfl ?_
                        refine AO.yld _ (Yld.int rfl rfl rfl) rfl rfl rfl ?_
                        refine AO.yld _ (Yld.move rfl) rfl rfl rfl ?_
                        refine AO.splitAt 115 _ rfl (fun s115 => ?_) (fun s115 => ?_)
                        · -- s115 True
                          refine AO.yldG _ (Yld.move rfl) rfl rfl rfl rfl rfl ?_
                          refine AO.yldG _ (Yld.int rfl rfl rfl) rfl rfl rfl rfl rfl ?_
                          refine AO.yld _ (Yld.pickT rfl rfl) rfl rfl rfl ?_
                          refine AO.yld _ (Yld.assign rfl) rfl rfl rfl ?_
                          refine AO.nil ?_
                          refine Pure.ret Try.results6 (RVs.cons (RV.tmp rfl) RVs.nil) rfl ?_
                          first
                            | rfl
                            | (refine cb ?_; rw [first_bad hbad]; rfl)
                            | (refine cb ?_; rw [first_bad hbad]; simp; done)
                            | (refine cb ?_; rw [(m0 hM0).2]; simp; done)
                            | (refine cb ?_; have h3 := m5 hM0 (by simpa using s155); rw [g2]; simp; omega)
                            | (simp_all; done)
                            | fail
                        · -- s115 False
                          exfalso; have h := s115; rw [(m0 hM0).1] at h; simp at h
                      · -- c111 False
                        have hM0 : (mostSeated gs25 rs25 b25).2.2 = 0 := by have h := c111; simp at h; exact h
                        refine AC.skip ?_
                        refine AC.seq ?_
                        refine AC.region ?_
                        refine AO.yld _ (Yld.move rfl) rfl rfl rfl ?_
                        refine AO.yld _ (Yld.move rfl) rfl rfl rfl ?_
                        refine AO.yld _ (Yld.call rfl rfl Try.call24 rfl rfl rfl (impl_SeatedPersons_c (by first | assumption | omega) (by assumption) (by first | assumption | omega)) rfl) rfl rfl rfl ?_
                        refine AO.yld _ (Yld.move rfl) rfl rfl rfl ?_
                        refine AO.yld _ (Yld.extract rfl rfl rfl) rfl rfl rfl ?_
                        refine AO.yld _ (Yld.extract rfl rfl rfl) rfl rfl rfl ?_
                        refine AO.yld _ (Yld.assign rfl) rfl rfl rfl ?_
                        refine AO.yld _ (Yld.assign rfl) rfl rfl rfl ?_
                        refine AO.nil ?_
                        refine AC.seq ?_
                        refine AC.region ?_
                        refine AO.yld _ (Yld.move rfl) rfl rfl rfl ?_
                        refine AO.yld _ (Yld.move rfl) rfl rfl rfl ?_
                        refine AO.yld _ (Yld.move rfl) rfl rfl rfl ?_
                        refine AO.yld _ (Yld.call rfl rfl Try.call26 rfl rfl rfl (impl_IsSeating_c (by first | assumption | omega) (by assumption) (by first | assumption | omega) (by first | assumption | omega)) rfl) rfl rfl rfl ?_
                        refine AO.yld _ (Yld.move rfl) rfl rfl rfl ?_
                        refine AO.splitAt 129 _ rfl (fun s129 => ?_) (fun s129 => ?_)
                        · -- s129 True
                          refine AO.yldG _ (Yld.move rfl) rfl rfl rfl rfl rfl ?_
                          refine AO.yldG _ (Yld.int rfl rfl rfl) rfl rfl rfl rfl rfl ?_
                          refine AO.yld _ (Yld.pickT rfl rfl) rfl rfl rfl ?_
                          refine AO.yld _ (Yld.move rfl) rfl rfl rfl ?_
                          refine AO.splitAt 133 _ rfl (fun s133 => ?_) (fun s133 => ?_)
                          · -- s133 True
                            refine AO.yldG _ (Yld.move rfl) rfl rfl rfl rfl rfl ?_
                            refine AO.yldG _ (Yld.move rfl) rfl rfl rfl rfl rfl ?_
                            refine AO.yldG _ (Yld.int rfl rfl rfl) rfl rfl rfl rfl rfl ?_
                            refine AO.yld _ (Yld.pickT rfl rfl) rfl rfl rfl ?_
                            refine AO.yld _ (Yld.move rfl) rfl rfl rfl ?_
                            refine AO.splitAt 138 _ rfl (fun s138 => ?_) (fun s138 => ?_)
                            · -- s138 True
                              refine AO.yldG _ (Yld.move rfl) rfl rfl rfl rfl rfl ?_
                              refine AO.yldG _ (Yld.move rfl) rfl rfl rfl rfl rfl ?_
                              refine AO.yldG _ (Yld.int rfl rfl rfl) rfl rfl rfl rfl rfl ?_
                              refine AO.yld _ (Yld.pickT rfl rfl) rfl rfl rfl ?_
                              refine AO.yld _ (Yld.move rfl) rfl rfl rfl ?_
                              refine AO.splitAt 143 _ rfl (fun s143 => ?_) (fun s143 => ?_)
                              · -- s143 True
                                refine AO.yldG _ (Yld.move rfl) rfl rfl rfl rfl rfl ?_
                                refine AO.yldG _ (Yld.int rfl rfl rfl) rfl rfl rfl rfl rfl ?_
                                refine AO.yldG _ (Yld.move rfl) rfl rfl rfl rfl rfl ?_
                                refine AO.splitAt 146 _ rfl (fun s146 => ?_) (fun s146 => ?_)
                                · -- s146 True
                                  refine AO.skipF rfl rfl rfl rfl rfl ?_
                                  refine AO.skipF rfl rfl rfl rfl rfl ?_
                                  refine AO.skipF rfl rfl rfl rfl rfl ?_
                                  refine AO.yldG _ (Yld.pickT rfl rfl) rfl rfl rfl rfl rfl ?_
                                  refine AO.yld _ (Yld.pickT rfl rfl) rfl rfl rfl ?_
                                  refine AO.yld _ (Yld.move rfl) rfl rfl rfl ?_
                                  refine AO.yldG _ (Yld.move rfl) rfl rfl rfl rfl rfl ?_
                                  refine AO.yldG _ (Yld.int rfl rfl rfl) rfl rfl rfl rfl rfl ?_
                                  refine AO.yldG _ (Yld.move rfl) rfl rfl rfl rfl rfl ?_
                                  refine AO.splitAt 155 _ rfl (fun s155 => ?_) (fun s155 => ?_)
                                  · -- s155 True
                                    refine AO.skipF rfl rfl rfl rfl rfl ?_
                                    refine AO.skipF rfl rfl rfl rfl rfl ?_
                                    refine AO.skipF rfl rfl rfl rfl rfl ?_
                                    refine AO.yldG _ (Yld.pickT rfl rfl) rfl rfl rfl rfl rfl ?_
                                    refine AO.yld _ (Yld.pickT rfl rfl) rfl rfl rfl ?_
                                    refine AO.yld _ (Yld.assign rfl) rfl rfl rfl ?_
                                    refine AO.nil ?_
                                    refine Pure.ret Try.results6 (RVs.cons (RV.tmp rfl) RVs.nil) rfl ?_
                                    first
                                      | rfl
                                      | (refine cb ?_; rw [first_bad hbad]; rfl)
                                      | (refine cb ?_; rw [first_bad hbad]; simp; done)
                                      | (refine cb ?_; rw [(m0 hM0).2]; simp; done)
                                      | (refine cb ?_; have h3 := m5 hM0 (by simpa using s155); rw [g2]; simp; omega)
                                      | (simp_all; done)
                                      | fail
                                  · -- s155 False
                                    refine AO.yldG _ (Yld.move rfl) rfl rfl rfl rfl rfl ?_
                                    refine AO.yldG _ (Yld.move rfl) rfl rfl rfl rfl rfl ?_
                                    refine AO.yldG _ (Yld.int rfl rfl rfl) rfl rfl rfl rfl rfl ?_
                                    refine AO.yldG _ (Yld.pickF rfl rfl) rfl rfl rfl rfl rfl ?_
                                    refine AO.yld _ (Yld.pickT rfl rfl) rfl rfl rfl ?_
                                    refine AO.yld _ (Yld.assign rfl) rfl rfl rfl ?_
                                    refine AO.nil ?_
                                    refine Pure.ret Try.results6 (RVs.cons (RV.tmp rfl) RVs.nil) rfl ?_
                                    first
                                      | rfl
                                      | (refine cb ?_; rw [first_bad hbad]; rfl)
                                      | (refine cb ?_; rw [first_bad hbad]; simp; done)
                                      | (refine cb ?_; rw [(m0 hM0).2]; simp; done)
                                      | (refine cb ?_; have h3 := m5 hM0 (by simpa using s155); rw [g2]; simp; omega)
                                      | (simp_all; done)
                                      | fail
                                · -- s146 False
                                  refine AO.yldG _ (Yld.move rfl) rfl rfl rfl rfl rfl ?_
                                  refine AO.yldG _ (Yld.move rfl) rfl rfl rfl rfl rfl ?_
                                  refine AO.yldG _ (Yld.int rfl rfl rfl) rfl rfl rfl rfl rfl ?_
                                  refine AO.yldG _ (Yld.pickF rfl rfl) rfl rfl rfl rfl rfl ?_
                                  refine AO.yld _ (Yld.pickT rfl rfl) rfl rfl rfl ?_
                                  refine AO.yld _ (Yld.move rfl) rfl rfl rfl ?_
                                  refine AO.splitAt 152 _ rfl (fun s152 => ?_) (fun s152 => ?_)
                                  · -- s152 True
                                    refine AO.yldG _ (Yld.move rfl) rfl rfl rfl rfl rfl ?_
                                    refine AO.yldG _ (Yld.int rfl rfl rfl) rfl rfl rfl rfl rfl ?_
                                    refine AO.yldG _ (Yld.move rfl) rfl rfl rfl rfl rfl ?_
                                    refine AO.splitAt 155 _ rfl (fun s155 => ?_) (fun s155 => ?_)
                                    · -- s155 True
                                      refine AO.skipF rfl rfl rfl rfl rfl ?_
                                      refine AO.skipF rfl rfl rfl rfl rfl ?_
                                      refine AO.skipF rfl rfl rfl rfl rfl ?_
                                      refine AO.yldG _ (Yld.pickT rfl rfl) rfl rfl rfl rfl rfl ?_
                                      refine AO.yld _ (Yld.pickT rfl rfl) rfl rfl rfl ?_
                                      refine AO.yld _ (Yld.assign rfl) rfl rfl rfl ?_
                                      refine AO.nil ?_
                                      refine Pure.ret Try.results6 (RVs.cons (RV.tmp rfl) RVs.nil) rfl ?_
                                      first
                                        | rfl
                                        | (refine cb ?_; rw [first_bad hbad]; rfl)
                                        | (refine cb ?_; rw [first_bad hbad]; simp; done)
                                        | (refine cb ?_; rw [(m0 hM0).2]; simp; done)
                                        | (refine cb ?_; have h3 := m5 hM0 (by simpa using s155); rw [g2]; simp; omega)
                                        | (simp_all; done)
                                        | fail
                                    · -- s155 False
                                      refine AO.yldG _ (Yld.move rfl) rfl rfl rfl rfl rfl ?_
                                      refine AO.yldG _ (Yld.move rfl) rfl rfl rfl rfl rfl ?_
                                      refine AO.yldG _ (Yld.int rfl rfl rfl) rfl rfl rfl rfl rfl ?_
                                      refine AO.yldG _ (Yld.pickF rfl rfl) rfl rfl rfl rfl rfl ?_
                                      refine AO.yld _ (Yld.pickT rfl rfl) rfl rfl rfl ?_
                                      refine AO.yld _ (Yld.assign rfl) rfl rfl rfl ?_
                                      refine AO.nil ?_
                                      refine Pure.ret Try.results6 (RVs.cons (RV.tmp rfl) RVs.nil) rfl ?_
                                      first
                                        | rfl
                                        | (refine cb ?_; rw [first_bad hbad]; rfl)
                                        | (refine cb ?_; rw [first_bad hbad]; simp; done)
                                        | (refine cb ?_; rw [(m0 hM0).2]; simp; done)
                                        | (refine cb ?_; have h3 := m5 hM0 (by simpa using s155); rw [g2]; simp; omega)
                                        | (simp_all; done)
                                        | fail
                                  · -- s152 False
                                    exfalso; first | (have h := s152; rw [m4 hM0 (by simpa using s146), g2] at h; simp at h; done) | (simp at s152; done)
                              · -- s143 False
                                exfalso; have h := s143; rw [g1] at h; have := m3 hM0; simp at h; omega
                            · -- s138 False
                              exfalso; have h := s138; rw [m1 hM0] at h; simp at h
                          · -- s133 False
                            exfalso; have h := s133; rw [m1 hM0] at h; simp at h
                        · -- s129 False
                          exfalso; have h := s129; rw [m2 hM0] at h; simp at h
                · -- c96 False
                  refine AC.skip ?_
                  refine AC.seq ?_
                  refine AC.seq ?_
                  refine AC.region ?_
                  refine AO.yld _ (Yld.move rfl) rfl rfl rfl ?_
                  refine AO.yld _ (Yld.int rfl rfl rfl) rfl rfl rfl ?_
                  refine AO.nil ?_
                  refine AC.cond _ rfl (fun c111 => ?_) (fun c111 => ?_)
                  · -- c111 True
                    have hM0 : (mostSeated gs25 rs25 b25).2.2 ≠ 0 := by have h := c111; simp at h; exact h
                    refine AC.seq ?_
                    refine AC.region ?_
                    refine AO.yld _ (Yld.move rfl) rfl rfl rfl ?_
                    refine AO.yld _ (Yld.len Try.underlying23 rfl rfl) rfl rfl rfl ?_
                    refine AO.yld _ (Yld.int rfl rfl rfl) rfl rfl rfl ?_
                    refine AO.yld _ (Yld.move rfl) rfl rfl rfl ?_
                    refine AO.splitAt 115 _ rfl (fun s115 => ?_) (fun s115 => ?_)
                    · -- s115 True
                      refine AO.yldG _ (Yld.move rfl) rfl rfl rfl rfl rfl ?_
                      refine AO.yldG _ (Yld.int rfl rfl rfl) rfl rfl rfl rfl rfl ?_
                      refine AO.yld _ (Yld.pickT rfl rfl) rfl rfl rfl ?_
                      refine AO.yld _ (Yld.assign rfl) rfl rfl rfl ?_
                      refine AO.nil ?_
                      refine Pure.ret Try.results6 (RVs.cons (RV.tmp rfl) RVs.nil) rfl ?_
                      first
                        | rfl
                        | (refine cb ?_; rw [first_bad hbad]; rfl)
                        | (refine cb ?_; rw [first_bad hbad]; simp; done)
                        | (refine cb ?_; rw [(m0 hM0).2]; simp; done)
                        | (refine cb ?_; have h3 := m5 hM0 (by simpa using s155); rw [g2]; simp; omega)
                        | (simp_all; done)
                        | fail
                    · -- s115 False
                      exfalso; have h := s115; rw [(m0 hM0).1] at h; simp at h
                  · -- c111 False
                    have hM0 : (mostSeated gs25 rs25 b25).2.2 = 0 := by have h := c111; simp at h; exact h
                    refine AC.skip ?_
                    refine AC.seq ?_
                    refine AC.region ?_
                    refine AO.yld _ (Yld.move rfl) rfl rfl rfl ?_
                    refine AO.yld _ (Yld.move rfl) rfl rfl rfl ?_
                    refine AO.yld _ (Yld.call rfl rfl Try.call24 rfl rfl rfl (impl_SeatedPersons_c (by first | assumption | omega) (by assumption) (by first | assumption | omega)) rfl) rfl rfl rfl ?_
                    refine AO.yld _ (Yld.move rfl) rfl rfl rfl ?_
                    refine AO.yld _ (Yld.extract rfl rfl rfl) rfl rfl rfl ?_
                    refine AO.yld _ (Yld.extract rfl rfl rfl) rfl rfl rfl ?_
                    refine AO.yld _ (Yld.assign rfl) rfl rfl rfl ?_
                    refine AO.yld _ (Yld.assign rfl) rfl rfl rfl ?_
                    refine AO.nil ?_
                    refine AC.seq ?_
                    refine AC.region ?_
                    refine AO.yld _ (Yld.move rfl) rfl rfl rfl ?_
                    refine AO.yld _ (Yld.move rfl) rfl rfl rfl ?_
                    refine AO.yld _ (Yld.move rfl) rfl rfl rfl ?_
                    refine AO.yld _ (Yld.call rfl rfl Try.call26 rfl rfl rfl (impl_IsSeating_c (by first | assumption | omega) (by assumption) (by first | assumption | omega) (by first | assumption | omega)) rfl) rfl rfl rfl ?_
                    refine AO.yld _ (Yld.move rfl) rfl rfl rfl ?_
                    refine AO.splitAt 129 _ rfl (fun s129 => ?_) (fun s129 => ?_)
                    · -- s129 True
                      refine AO.yldG _ (Yld.move rfl) rfl rfl rfl rfl rfl ?_
                      refine AO.yldG _ (Yld.int rfl rfl rfl) rfl rfl rfl rfl rfl ?_
                      refine AO.yld _ (Yld.pickT rfl rfl) rfl rfl rfl ?_
                      refine AO.yld _ (Yld.move rfl) rfl rfl rfl ?_
                      refine AO.splitAt 133 _ rfl (fun s133 => ?_) (fun s133 => ?_)
                      · -- s133 True
                        refine AO.yldG _ (Yld.move rfl) rfl rfl rfl rfl rfl ?_
                        refine AO.yldG _ (Yld.move rfl) rfl rfl rfl rfl rfl ?_
                        refine AO.yldG _ (Yld.int rfl rfl rfl) rfl rfl rfl rfl rfl ?_
                        refine AO.yld _ (Yld.pickT rfl rfl) rfl rfl rfl ?_
                        refine AO.yld _ (Yld.move rfl) rfl rfl rfl ?_
                        refine AO.splitAt 138 _ rfl (fun s138 => ?_) (fun s138 => ?_)
                        · -- s138 True
                          refine AO.yldG _ (Yld.move rfl) rfl rfl rfl rfl rfl ?_
                          refine AO.yldG _ (Yld.move rfl) rfl rfl rfl rfl rfl ?_
                          refine AO.yldG _ (Yld.int rfl rfl rfl) rfl rfl rfl rfl rfl ?_
                          refine AO.yld _ (Yld.pickT rfl rfl) rfl rfl rfl ?_
                          refine AO.yld _ (Yld.move rfl) rfl rfl rfl ?_
                          refine AO.splitAt 143 _ rfl (fun s143 => ?_) (fun s143 => ?_)
                          · -- s143 True
                            refine AO.yldG _ (Yld.move rfl) rfl rfl rfl rfl rfl ?_
                            refine AO.yldG _ (Yld.int rfl rfl rfl) rfl rfl rfl rfl rfl ?_
                            refine AO.yldG _ (Yld.move rfl) rfl rfl rfl rfl rfl ?_
                            refine AO.splitAt 146 _ rfl (fun s146 => ?_) (fun s146 => ?_)
                            · -- s146 True
                              refine AO.skipF rfl rfl rfl rfl rfl ?_
                              refine AO.skipF rfl rfl rfl rfl rfl ?_
                              refine AO.skipF rfl rfl rfl rfl rfl ?_
                              refine AO.yldG _ (Yld.pickT rfl rfl) rfl rfl rfl rfl rfl ?_
                              refine AO.yld _ (Yld.pickT rfl rfl) rfl rfl rfl ?_
                              refine AO.yld _ (Yld.move rfl) rfl rfl rfl ?_
                              refine AO.yldG _ (Yld.move rfl) rfl rfl rfl rfl rfl ?_
                              refine AO.yldG _ (Yld.int rfl rfl rfl) rfl rfl rfl rfl rfl ?_
                              refine AO.yldG _ (Yld.move rfl) rfl rfl rfl rfl rfl ?_
                              refine AO.splitAt 155 _ rfl (fun s155 => ?_) (fun s155 => ?_)
                              · -- s155 True
                                refine AO.skipF rfl rfl rfl rfl rfl ?_
                                refine AO.skipF rfl rfl rfl rfl rfl ?_
                                refine AO.skipF rfl rfl rfl rfl rfl ?_
                                refine AO.yldG _ (Yld.pickT rfl rfl) rfl rfl rfl rfl rfl ?_
                                refine AO.yld _ (Yld.pickT rfl rfl) rfl rfl rfl ?_
                                refine AO.yld _ (Yld.assign rfl) rfl rfl rfl ?_
                                refine AO.nil ?_
                                refine Pure.ret Try.results6 (RVs.cons (RV.tmp rfl) RVs.nil) rfl ?_
                                first
                                  | rfl
                                  | (refine cb ?_; rw [first_bad hbad]; rfl)
                                  | (refine cb ?_; rw [first_bad hbad]; simp; done)
                                  | (refine cb ?_; rw [(m0 hM0).2]; simp; done)
                                  | (refine cb ?_; have h3 := m5 hM0 (by simpa using s155); rw [g2]; simp; omega)
                                  | (simp_all; done)
                                  | fail
                              · -- s155 False
                                refine AO.yldG _ (Yld.move rfl) rfl rfl rfl rfl rfl ?_
                                refine AO.yldG _ (Yld.move rfl) rfl rfl rfl rfl rfl ?_
                                refine AO.yldG _ (Yld.int rfl rfl rfl) rfl rfl rfl rfl rfl ?_
                                refine AO.yldG _ (Yld.pickF rfl rfl) rfl rfl rfl rfl rfl ?_
                                refine AO.yld _ (Yld.pickT rfl rfl) rfl rfl rfl ?_
                                refine AO.yld _ (Yld.assign rfl) rfl rfl rfl ?_
                                refine AO.nil ?_
                                refine Pure.ret Try.results6 (RVs.cons (RV.tmp rfl) RVs.nil) rfl ?_
                                first
                                  | rfl
                                  | (refine cb ?_; rw [first_bad hbad]; rfl)
                                  | (refine cb ?_; rw [first_bad hbad]; simp; done)
                                  | (refine cb ?_; rw [(m0 hM0).2]; simp; done)
                                  | (refine cb ?_; have h3 := m5 hM0 (by simpa using s155); rw [g2]; simp; omega)
                                  | (simp_all; done)
                                  | fail
                            · -- s146 False
                              refine AO.yldG _ (Yld.move rfl) rfl rfl rfl rfl rfl ?_
                              refine AO.yldG _ (Yld.move rfl) rfl rfl rfl rfl rfl ?_
                              refine AO.yldG _ (Yld.int rfl rfl rfl) rfl rfl rfl rfl rfl ?_
                              refine AO.yldG _ (Yld.pickF rfl rfl) rfl rfl rfl rfl rfl ?_
                              refine AO.yld _ (Yld.pickT rfl rfl) rfl rfl rfl ?_
                              refine AO.yld _ (Yld.move rfl) rfl rfl rfl ?_
                              refine AO.splitAt 152 _ rfl (fun s152 => ?_) (fun s152 => ?_)
                              · -- s152 True
                                refine AO.yldG _ (Yld.move rfl) rfl rfl rfl rfl rfl ?_
                                refine AO.yldG _ (Yld.int rfl rfl rfl) rfl rfl rfl rfl rfl ?_
                                refine AO.yldG _ (Yld.move rfl) rfl rfl rfl rfl rfl ?_
                                refine AO.splitAt 155 _ rfl (fun s155 => ?_) (fun s155 => ?_)
                                · -- s155 True
                                  refine AO.skipF rfl rfl rfl rfl rfl ?_
                                  refine AO.skipF rfl rfl rfl rfl rfl ?_
                                  refine AO.skipF rfl rfl rfl rfl rfl ?_
                                  refine AO.yldG _ (Yld.pickT rfl rfl) rfl rfl rfl rfl rfl ?_
                                  refine AO.yld _ (Yld.pickT rfl rfl) rfl rfl rfl ?_
                                  refine AO.yld _ (Yld.assign rfl) rfl rfl rfl ?_
                                  refine AO.nil ?_
                                  refine Pure.ret Try.results6 (RVs.cons (RV.tmp rfl) RVs.nil) rfl ?_
                                  first
                                    | rfl
                                    | (refine cb ?_; rw [first_bad hbad]; rfl)
                                    | (refine cb ?_; rw [first_bad hbad]; simp; done)
                                    | (refine cb ?_; rw [(m0 hM0).2]; simp; done)
                                    | (refine cb ?_; have h3 := m5 hM0 (by simpa using s155); rw [g2]; simp; omega)
                                    | (simp_all; done)
                                    | fail
                                · -- s155 False
                                  refine AO.yldG _ (Yld.move rfl) rfl rfl rfl rfl rfl ?_
                                  refine AO.yldG _ (Yld.move rfl) rfl rfl rfl rfl rfl ?_
                                  refine AO.yldG _ (Yld.int rfl rfl rfl) rfl rfl rfl rfl rfl ?_
                                  refine AO.yldG _ (Yld.pickF rfl rfl) rfl rfl rfl rfl rfl ?_
                                  refine AO.yld _ (Yld.pickT rfl rfl) rfl rfl rfl ?_
                                  refine AO.yld _ (Yld.assign rfl) rfl rfl rfl ?_
                                  refine AO.nil ?_
                                  refine Pure.ret Try.results6 (RVs.cons (RV.tmp rfl) RVs.nil) rfl ?_
                                  first
                                    | rfl
                                    | (refine cb ?_; rw [first_bad hbad]; rfl)
                                    | (refine cb ?_; rw [first_bad hbad]; simp; done)
                                    | (refine cb ?_; rw [(m0 hM0).2]; simp; done)
                                    | (refine cb ?_; have h3 := m5 hM0 (by simpa using s155); rw [g2]; simp; omega)
                                    | (simp_all; done)
                                    | fail
                              · -- s152 False
                                exfalso; first | (have h := s152; rw [m4 hM0 (by simpa using s146), g2] at h; simp at h; done) | (simp at s152; done)
                          · -- s143 False
                            exfalso; have h := s143; rw [g1] at h; have := m3 hM0; simp at h; omega
                        · -- s138 False
                          exfalso; have h := s138; rw [m1 hM0] at h; simp at h
                      · -- s133 False
                        exfalso; have h := s133; rw [m1 hM0] at h; simp at h
                    · -- s129 False
                      exfalso; have h := s129; rw [m2 hM0] at h; simp at h
            · -- s87 False
              refine AO.skipT rfl rfl rfl rfl rfl ?_
              refine AO.skipT rfl rfl rfl rfl rfl ?_
              refine AO.skipT rfl rfl rfl rfl rfl ?_
              refine AO.skipT rfl rfl rfl rfl rfl ?_
              refine AO.skipT rfl rfl rfl rfl rfl ?_
              refine AO.yldG _ (Yld.pickF rfl rfl) rfl rfl rfl rfl rfl ?_
              refine AO.yld _ (Yld.pickF rfl rfl) rfl rfl rfl ?_
              refine AO.nil ?_
              refine AC.condF rfl ?_
              refine AC.skip ?_
              refine AC.seq ?_
              refine AC.seq ?_
              refine AC.region ?_
              refine AO.yld _ (Yld.move rfl) rfl rfl rfl ?_
              refine AO.yld _ (Yld.int rfl rfl rfl) rfl rfl rfl ?_
              refine AO.nil ?_
              refine AC.cond _ rfl (fun c96 => ?_) (fun c96 => ?_)
              · -- c96 True
                refine AC.seq ?_
                refine AC.region ?_
                refine AO.yld _ (Yld.move rfl) rfl rfl rfl ?_
                refine AO.yld _ (Yld.move rfl) rfl rfl rfl ?_
                refine AO.yld _ (Yld.call rfl rfl Try.call24 rfl rfl rfl (impl_SeatedPersons_c (by first | assumption | omega) (by assumption) (by first | assumption | omega)) rfl) rfl rfl rfl ?_
                refine AO.yld _ (Yld.move rfl) rfl rfl rfl ?_
                refine AO.yld _ (Yld.extract rfl rfl rfl) rfl rfl rfl ?_
                refine AO.yld _ (Yld.extract rfl rfl rfl) rfl rfl rfl ?_
                refine AO.yld _ (Yld.assign rfl) rfl rfl rfl ?_
                refine AO.yld _ (Yld.assign rfl) rfl rfl rfl ?_
                refine AO.nil ?_
                refine AC.seq ?_
                refine AC.region ?_
                refine AO.yld _ (Yld.move rfl) rfl rfl rfl ?_
                refine AO.yld _ (Yld.int rfl rfl rfl) rfl rfl rfl ?_
                refine AO.yld _ (Yld.move rfl) rfl rfl rfl ?_
                refine AO.splitAt 105 _ rfl (fun s105 => ?_) (fun s105 => ?_)
                · -- s105 True
                  exfalso; have h := s105; rw [f2 (by simpa using c96)] at h; simp at h
                · -- s105 False
                  refine AO.yldG _ (Yld.move rfl) rfl rfl rfl rfl rfl ?_
                  refine AO.yldG _ (Yld.move rfl) rfl rfl rfl rfl rfl ?_
                  refine AO.yldG _ (Yld.int rfl rfl rfl) rfl rfl rfl rfl rfl ?_
                  refine AO.yld _ (Yld.pickF rfl rfl) rfl rfl rfl ?_
                  refine AO.nil ?_
                  refine AC.cond _ rfl (fun c109 => ?_) (fun c109 => ?_)
                  · -- c109 True
                    exfalso; have h := c109; rw [f2 (by simpa using c96), g2] at h; simp at h
                  · -- c109 False
                    skip
                    refine AC.skip ?_
                    refine AC.seq ?_
                    refine AC.seq ?_
                    refine AC.region ?_
                    refine AO.yld _ (Yld.move rfl) rfl rfl rfl ?_
                    refine AO.yld _ (Yld.int rfl rfl rfl) rfl rfl rfl ?_
                    refine AO.nil ?_
                    refine AC.cond _ rfl (fun c111 => ?_) (fun c111 => ?_)
                    · -- c111 True
                      have hM0 : (mostSeated gs25 rs25 b25).2.2 ≠ 0 := by have h := c111; simp at h; exact h
                      refine AC.seq ?_
                      refine AC.region ?_
                      refine AO.yld _ (Yld.move rfl) rfl rfl rfl ?_
                      refine AO.yld _ (Yld.len Try.underlying23 rfl rfl) rfl rfl rfl ?_
                      refine AO.yld _ (Yld.int rfl rfl rfl) rfl rfl rfl ?_
                      refine AO.yld _ (Yld.move rfl) rfl rfl rfl ?_
                      refine AO.splitAt 115 _ rfl (fun s115 => ?_) (fun s115 => ?_)
                      · -- s115 True
                        refine AO.yldG _ (Yld.move rfl) rfl rfl rfl rfl rfl ?_
                        refine AO.yldG _ (Yld.int rfl rfl rfl) rfl rfl rfl rfl rfl ?_
                        refine AO.yld _ (Yld.pickT rfl rfl) rfl rfl rfl ?_
                        refine AO.yld _ (Yld.assign rfl) rfl rfl rfl ?_
                        refine AO.nil ?_
                        refine Pure.ret Try.results6 (RVs.cons (RV.tmp rfl) RVs.nil) rfl ?_
                        first
                          | rfl
                          | (refine cb ?_; rw [first_bad hbad]; rfl)
                          | (refine cb ?_; rw [first_bad hbad]; simp; done)
                          | (refine cb ?_; rw [(m0 hM0).2]; simp; done)
                          | (refine cb ?_; have h3 := m5 hM0 (by simpa using s155); rw [g2]; simp; omega)
                          | (simp_all; done)
                          | fail
                      · -- s115 False
                        exfalso; have h := s115; rw [(m0 hM0).1] at h; simp at h
                    · -- c111 False
                      have hM0 : (mostSeated gs25 rs25 b25).2.2 = 0 := by have h := c111; simp at h; exact h
                      refine AC.skip ?_
                      refine AC.seq ?_
                      refine AC.region ?_
                      refine AO.yld _ (Yld.move rfl) rfl rfl rfl ?_
                      refine AO.yld _ (Yld.move rfl) rfl rfl rfl ?_
                      refine AO.yld _ (Yld.call rfl rfl Try.call24 rfl rfl rfl (impl_SeatedPersons_c (by first | assumption | omega) (by assumption) (by first | assumption | omega)) rfl) rfl rfl rfl ?_
                      refine AO.yld _ (Yld.move rfl) rfl rfl rfl ?_
                      refine AO.yld _ (Yld.extract rfl rfl rfl) rfl rfl rfl ?_
                      refine AO.yld _ (Yld.extract rfl rfl rfl) rfl rfl rfl ?_
                      refine AO.yld _ (Yld.assign rfl) rfl rfl rfl ?_
                      refine AO.yld _ (Yld.assign rfl) rfl rfl rfl ?_
                      refine AO.nil ?_
                      refine AC.seq ?_
                      refine AC.region ?_
                      refine AO.yld _ (Yld.move rfl) rfl rfl rfl ?_
                      refine AO.yld _ (Yld.move rfl) rfl rfl rfl ?_
                      refine AO.yld _ (Yld.move rfl) rfl rfl rfl ?_
                      refine AO.yld _ (Yld.call rfl rfl Try.call26 rfl rfl rfl (impl_IsSeating_c (by first | assumption | omega) (by assumption) (by first | assumption | omega) (by first | assumption | omega)) rfl) rfl rfl rfl ?_
                      refine AO.yld _ (Yld.move rfl) rfl rfl rfl ?_
                      refine AO.splitAt 129 _ rfl (fun s129 => ?_) (fun s129 => ?_)
                      · -- s129 True
                        refine AO.yldG _ (Yld.move rfl) rfl rfl rfl rfl rfl ?_
                        refine AO.yldG _ (Yld.int rfl rfl rfl) rfl rfl rfl rfl rfl ?_
                        refine AO.yld _ (Yld.pickT rfl rfl) rfl rfl rfl ?_
                        refine AO.yld _ (Yld.move rfl) rfl rfl rfl ?_
                        refine AO.splitAt 133 _ rfl (fun s133 => ?_) (fun s133 => ?_)
                        · -- s133 True
                          refine AO.yldG _ (Yld.move rfl) rfl rfl rfl rfl rfl ?_
                          refine AO.yldG _ (Yld.move rfl) rfl rfl rfl rfl rfl ?_
                          refine AO.yldG _ (Yld.int rfl rfl rfl) rfl rfl rfl rfl rfl ?_
                          refine AO.yld _ (Yld.pickT rfl rfl) rfl rfl rfl ?_
                          refine AO.yld _ (Yld.move rfl) rfl rfl rfl ?_
                          refine AO.splitAt 138 _ rfl (fun s138 => ?_) (fun s138 => ?_)
                          · -- s138 True
                            refine AO.yldG _ (Yld.move rfl) rfl rfl rfl rfl rfl ?_
                            refine AO.yldG _ (Yld.move rfl) rfl rfl rfl rfl rfl ?_
                            refine AO.yldG _ (Yld.int rfl rfl rfl) rfl rfl rfl rfl rfl ?_
                            refine AO.yld _ (Yld.pickT rfl rfl) rfl rfl rfl ?_
                            refine AO.yld _ (Yld.move rfl) rfl rfl rfl ?_
                            refine AO.splitAt 143 _ rfl (fun s143 => ?_) (fun s143 => ?_)
                            · -- s143 True
                              refine AO.yldG _ (Yld.move rfl) rfl rfl rfl rfl rfl ?_
                              refine AO.yldG _ (Yld.int rfl rfl rfl) rfl rfl rfl rfl rfl ?_
                              refine AO.yldG _ (Yld.move rfl) rfl rfl rfl rfl rfl ?_
                              refine AO.splitAt 146 _ rfl (fun s146 => ?_) (fun s146 => ?_)
                              · -- s146 True
                                refine AO.skipF rfl rfl rfl rfl rfl ?_
                                refine AO.skipF rfl rfl rfl rfl rfl ?_
                                refine AO.skipF rfl rfl rfl rfl rfl ?_
                                refine AO.yldG _ (Yld.pickT rfl rfl) rfl rfl rfl rfl rfl ?_
                                refine AO.yld _ (Yld.pickT rfl rfl) rfl rfl rfl ?_
                                refine AO.yld _ (Yld.move rfl) rfl rfl rfl ?_
                                refine AO.yldG _ (Yld.move rfl) rfl rfl rfl rfl rfl ?_
                                refine AO.yldG _ (Yld.int rfl rfl rfl) rfl rfl rfl rfl rfl ?_
                                refine AO.yldG _ (Yld.move rfl) rfl rfl rfl rfl rfl ?_
                                refine AO.splitAt 155 _ rfl (fun s155 => ?_) (fun s155 => ?_)
                                · -- s155 True
                                  refine AO.skipF rfl rfl rfl rfl rfl ?_
                                  refine AO.skipF rfl rfl rfl rfl rfl ?_
                                  refine AO.skipF rfl rfl rfl rfl rfl ?_
                                  refine AO.yldG _ (Yld.pickT rfl rfl) rfl rfl rfl rfl rfl ?_
                                  refine AO.yld _ (Yld.pickT rfl rfl) rfl rfl rfl ?_
                                  refine AO.yld _ (Yld.assign rfl) rfl rfl rfl ?_
                                  refine AO.nil ?_
                                  refine Pure.ret Try.results6 (RVs.cons (RV.tmp rfl) RVs.nil) rfl ?_
                                  first
                                    | rfl
                                    | (refine cb ?_; rw [first_bad hbad]; rfl)
                                    | (refine cb ?_; rw [first_bad hbad]; simp; done)
                                    | (refine cb ?_; rw [(m0 hM0).2]; simp; done)
                                    | (refine cb ?_; have h3 := m5 hM0 (by simpa using s155); rw [g2]; simp; omega)
                                    | (simp_all; done)
                                    | fail
                                · -- s155 False
                                  refine AO.yldG _ (Yld.move rfl) rfl rfl rfl rfl rfl ?_
                                  refine AO.yldG _ (Yld.move rfl) rfl rfl rfl rfl rfl ?_
                                  refine AO.yldG _ (Yld.int rfl rfl rfl) rfl rfl rfl rfl rfl ?_
                                  refine AO.yldG _ (Yld.pickF rfl rfl) rfl rfl rfl rfl rfl ?_
                                  refine AO.yld _ (Yld.pickT rfl rfl) rfl rfl rfl ?_
                                  refine AO.yld _ (Yld.assign rfl) rfl rfl rfl ?_
                                  refine AO.nil ?_
                                  refine Pure.ret Try.results6 (RVs.cons (RV.tmp rfl) RVs.nil) rfl ?_
                                  first
                                    | rfl
                                    | (refine cb ?_; rw [first_bad hbad]; rfl)
                                    | (refine cb ?_; rw [first_bad hbad]; simp; done)
                                    | (refine cb ?_; rw [(m0 hM0).2]; simp; done)
                                    | (refine cb ?_; have h3 := m5 hM0 (by simpa using s155); rw [g2]; simp; omega)
                                    | (simp_all; done)
                                    | fail
                              · -- s146 False
                                refine AO.yldG _ (Yld.move rfl) rfl rfl rfl rfl rfl ?_
                                refine AO.yldG _ (Yld.move rfl) rfl rfl rfl rfl rfl ?_
                                refine AO.yldG _ (Yld.int rfl rfl rfl) rfl rfl rfl rfl rfl ?_
                                refine AO.yldG _ (Yld.pickF rfl rfl) rfl rfl rfl rfl rfl ?_
                                refine AO.yld _ (Yld.pickT rfl rfl) rfl rfl rfl ?_
                                refine AO.yld _ (Yld.move rfl) rfl rfl rfl ?_
                                refine AO.splitAt 152 _ rfl (fun s152 => ?_) (fun s152 => ?_)
                                · -- s152 True
                                  refine AO.yldG _ (Yld.move rfl) rfl rfl rfl rfl rfl ?_
                                  refine AO.yldG _ (Yld.int rfl rfl rfl) rfl rfl rfl rfl rfl ?_
                                  refine AO.yldG _ (Yld.move rfl) rfl rfl rfl rfl rfl ?_
                                  refine AO.splitAt 155 _ rfl (fun s155 => ?_) (fun s155 => ?_)
                                  · -- s155 True
                                    refine AO.skipF rfl rfl rfl rfl rfl ?_
                                    refine AO.skipF rfl rfl rfl rfl rfl ?_
                                    refine AO.skipF rfl rfl rfl rfl rfl ?_
                                    refine AO.yldG _ (Yld.pickT rfl rfl) rfl rfl rfl rfl rfl ?_
                                    refine AO.yld _ (Yld.pickT rfl rfl) rfl rfl rfl ?_
                                    refine AO.yld _ (Yld.assign rfl) rfl rfl rfl ?_
                                    refine AO.nil ?_
                                    refine Pure.ret Try.results6 (RVs.cons (RV.tmp rfl) RVs.nil) rfl ?_
                                    first
                                      | rfl
                                      | (refine cb ?_; rw [first_bad hbad]; rfl)
                                      | (refine cb ?_; rw [first_bad hbad]; simp; done)
                                      | (refine cb ?_; rw [(m0 hM0).2]; simp; done)
                                      | (refine cb ?_; have h3 := m5 hM0 (by simpa using s155); rw [g2]; simp; omega)
                                      | (simp_all; done)
                                      | fail
                                  · -- s155 False
                                    refine AO.yldG _ (Yld.move rfl) rfl rfl rfl rfl rfl ?_
                                    refine AO.yldG _ (Yld.move rfl) rfl rfl rfl rfl rfl ?_
                                    refine AO.yldG _ (Yld.int rfl rfl rfl) rfl rfl rfl rfl rfl ?_
                                    refine AO.yldG _ (Yld.pickF rfl rfl) rfl rfl rfl rfl rfl ?_
                                    refine AO.yld _ (Yld.pickT rfl rfl) rfl rfl rfl ?_
                                    refine AO.yld _ (Yld.assign rfl) rfl rfl rfl ?_
                                    refine AO.nil ?_
                                    refine Pure.ret Try.results6 (RVs.cons (RV.tmp rfl) RVs.nil) rfl ?_
                                    first
                                      | rfl
                                      | (refine cb ?_; rw [first_bad hbad]; rfl)
                                      | (refine cb ?_; rw [first_bad hbad]; simp; done)
                                      | (refine cb ?_; rw [(m0 hM0).2]; simp; done)
                                      | (refine cb ?_; have h3 := m5 hM0 (by simpa using s155); rw [g2]; simp; omega)
                                      | (simp_all; done)
                                      | fail
                                · -- s152 False
                                  exfalso; first | (have h := s152; rw [m4 hM0 (by simpa using s146), g2] at h; simp at h; done) | (simp at s152; done)
                            · -- s143 False
                              exfalso; have h := s143; rw [g1] at h; have := m3 hM0; simp at h; omega
                          · -- s138 False
                            exfalso; have h := s138; rw [m1 hM0] at h; simp at h
                        · -- s133 False
                          exfalso; have h := s133; rw [m1 hM0] at h; simp at h
                      · -- s129 False
                        exfalso; have h := s129; rw [m2 hM0] at h; simp at h
              · -- c96 False
                refine AC.skip ?_
                refine AC.seq ?_
                refine AC.seq ?_
                refine AC.region ?_
                refine AO.yld _ (Yld.move rfl) rfl rfl rfl ?_
                refine AO.yld _ (Yld.int rfl rfl rfl) rfl rfl rfl ?_
                refine AO.nil ?_
                refine AC.cond _ rfl (fun c111 => ?_) (fun c111 => ?_)
                · -- c111 True
                  have hM0 : (mostSeated gs25 rs25 b25).2.2 ≠ 0 := by have h := c111; simp at h; exact h
                  refine AC.seq ?_
                  refine AC.region ?_
                  refine AO.yld _ (Yld.move rfl) rfl rfl rfl ?_
                  refine AO.yld _ (Yld.len Try.underlying23 rfl rfl) rfl rfl rfl ?_
                  refine AO.yld _ (Yld.int rfl rfl rfl) rfl rfl rfl ?_
                  refine AO.yld _ (Yld.move rfl) rfl rfl rfl ?_
                  refine AO.splitAt 115 _ rfl (fun s115 => ?_) (fun s115 => ?_)
                  · -- s115 True
                    refine AO.yldG _ (Yld.move rfl) rfl rfl rfl rfl rfl ?_
                    refine AO.yldG _ (Yld.int rfl rfl rfl) rfl rfl rfl rfl rfl ?_
                    refine AO.yld _ (Yld.pickT rfl rfl) rfl rfl rfl ?_
                    refine AO.yld _ (Yld.assign rfl) rfl rfl rfl ?_
                    refine AO.nil ?_
                    refine Pure.ret Try.results6 (RVs.cons (RV.tmp rfl) RVs.nil) rfl ?_
                    first
                      | rfl
                      | (refine cb ?_; rw [first_bad hbad]; rfl)
                      | (refine cb ?_; rw [first_bad hbad]; simp; done)
                      | (refine cb ?_; rw [(m0 hM0).2]; simp; done)
                      | (refine cb ?_; have h3 := m5 hM0 (by simpa using s155); rw [g2]; simp; omega)
                      | (simp_all; done)
                      | fail
                  · -- s115 False
                    exfalso; have h := s115; rw [(m0 hM0).1] at h; simp at h
                · -- c111 False
                  have hM0 : (mostSeated gs25 rs25 b25).2.2 = 0 := by have h := c111; simp at h; exact h
                  refine AC.skip ?_
                  refine AC.seq ?_
                  refine AC.region ?_
                  refine AO.yld _ (Yld.move rfl) rfl rfl rfl ?_
                  refine AO.yld _ (Yld.move rfl) rfl rfl rfl ?_
                  refine AO.yld _ (Yld.call rfl rfl Try.call24 rfl rfl rfl (impl_SeatedPersons_c (by first | assumption | omega) (by assumption) (by first | assumption | omega)) rfl) rfl rfl rfl ?_
                  refine AO.yld _ (Yld.move rfl) rfl rfl rfl ?_
                  refine AO.yld _ (Yld.extract rfl rfl rfl) rfl rfl rfl ?_
                  refine AO.yld _ (Yld.extract rfl rfl rfl) rfl rfl rfl ?_
                  refine AO.yld _ (Yld.assign rfl) rfl rfl rfl ?_
                  refine AO.yld _ (Yld.assign rfl) rfl rfl rfl ?_
                  refine AO.nil ?_
                  refine AC.seq ?_
                  refine AC.region ?_
                  refine AO.yld _ (Yld.move rfl) rfl rfl rfl ?_
                  refine AO.yld _ (Yld.move rfl) rfl rfl rfl ?_
                  refine AO.yld _ (Yld.move rfl) rfl rfl rfl ?_
                  refine AO.yld _ (Yld.call rfl rfl Try.call26 rfl rfl rfl (impl_IsSeating_c (by first | assumption | omega) (by assumption) (by first | assumption | omega) (by first | assumption | omega)) rfl) rfl rfl rfl ?_
                  refine AO.yld _ (Yld.move rfl) rfl rfl rfl ?_
                  refine AO.splitAt 129 _ rfl (fun s129 => ?_) (fun s129 => ?_)
                  · -- s129 True
                    refine AO.yldG _ (Yld.move rfl) rfl rfl rfl rfl rfl ?_
                    refine AO.yldG _ (Yld.int rfl rfl rfl) rfl rfl rfl rfl rfl ?_
                    refine AO.yld _ (Yld.pickT rfl rfl) rfl rfl rfl ?_
                    refine AO.yld _ (Yld.move rfl) rfl rfl rfl ?_
                    refine AO.splitAt 133 _ rfl (fun s133 => ?_) (fun s133 => ?_)
                    · -- s133 True
                      refine AO.yldG _ (Yld.move rfl) rfl rfl rfl rfl rfl ?_
                      refine AO.yldG _ (Yld.move rfl) rfl rfl rfl rfl rfl ?_
                      refine AO.yldG _ (Yld.int rfl rfl rfl) rfl rfl rfl rfl rfl ?_
                      refine AO.yld _ (Yld.pickT rfl rfl) rfl rfl rfl ?_
                      refine AO.yld _ (Yld.move rfl) rfl rfl rfl ?_
                      refine AO.splitAt 138 _ rfl (fun s138 => ?_) (fun s138 => ?_)
                      · -- s138 True
                        refine AO.yldG _ (Yld.move rfl) rfl rfl rfl rfl rfl ?_
                        refine AO.yldG _ (Yld.move rfl) rfl rfl rfl rfl rfl ?_
                        refine AO.yldG _ (Yld.int rfl rfl rfl) rfl rfl rfl rfl rfl ?_
                        refine AO.yld _ (Yld.pickT rfl rfl) rfl rfl rfl ?_
                        refine AO.yld _ (Yld.move rfl) rfl rfl rfl ?_
                        refine AO.splitAt 143 _ rfl (fun s143 => ?_) (fun s143 => ?_)
                        · -- s143 True
                          refine AO.yldG _ (Yld.move rfl) rfl rfl rfl rfl rfl ?_
                          refine AO.yldG _ (Yld.int rfl rfl rfl) rfl rfl rfl rfl rfl ?_
                          refine AO.yldG _ (Yld.move rfl) rfl rfl rfl rfl rfl ?_
                          refine AO.splitAt 146 _ rfl (fun s146 => ?_) (fun s146 => ?_)
                          · -- s146 True
                            refine AO.skipF rfl rfl rfl rfl rfl ?_
                            refine AO.skipF rfl rfl rfl rfl rfl ?_
                            refine AO.skipF rfl rfl rfl rfl rfl ?_
                            refine AO.yldG _ (Yld.pickT rfl rfl) rfl rfl rfl rfl rfl ?_
                            refine AO.yld _ (Yld.pickT rfl rfl) rfl rfl rfl ?_
                            refine AO.yld _ (Yld.move rfl) rfl rfl rfl ?_
                            refine AO.yldG _ (Yld.move rfl) rfl rfl rfl rfl rfl ?_
                            refine AO.yldG _ (Yld.int rfl rfl rfl) rfl rfl rfl rfl rfl ?_
                            refine AO.yldG _ (Yld.move rfl) rfl rfl rfl rfl rfl ?_
                            refine AO.splitAt 155 _ rfl (fun s155 => ?_) (fun s155 => ?_)
                            · -- s155 True
                              refine AO.skipF rfl rfl rfl rfl rfl ?_
                              refine AO.skipF rfl rfl rfl rfl rfl ?_
                              refine AO.skipF rfl rfl rfl rfl rfl ?_
                              refine AO.yldG _ (Yld.pickT rfl rfl) rfl rfl rfl rfl rfl ?_
                              refine AO.yld _ (Yld.pickT rfl rfl) rfl rfl rfl ?_
                              refine AO.yld _ (Yld.assign rfl) rfl rfl rfl ?_
                              refine AO.nil ?_
                              refine Pure.ret Try.results6 (RVs.cons (RV.tmp rfl) RVs.nil) rfl ?_
                              first
                                | rfl
                                | (refine cb ?_; rw [first_bad hbad]; rfl)
                                | (refine cb ?_; rw [first_bad hbad]; simp; done)
                                | (refine cb ?_; rw [(m0 hM0).2]; simp; done)
                                | (refine cb ?_; have h3 := m5 hM0 (by simpa using s155); rw [g2]; simp; omega)
                                | (simp_all; done)
                                | fail
                            · -- s155 False
                              refine AO.yldG _ (Yld.move rfl) rfl rfl rfl rfl rfl ?_
                              refine AO.yldG _ (Yld.move rfl) rfl rfl rfl rfl rfl ?_
                              refine AO.yldG _ (Yld.int rfl rfl rfl) rfl rfl rfl rfl rfl ?_
                              refine AO.yldG _ (Yld.pickF rfl rfl) rfl rfl rfl rfl rfl ?_
                              refine AO.yld _ (Yld.pickT rfl rfl) rfl rfl rfl ?_
                              refine AO.yld _ (Yld.assign rfl) rfl rfl rfl ?_
                              refine AO.nil ?_
                              refine Pure.ret Try.results6 (RVs.cons (RV.tmp rfl) RVs.nil) rfl ?_
                              first
                                | rfl
                                | (refine cb ?_; rw [first_bad hbad]; rfl)
                                | (refine cb ?_; rw [first_bad hbad]; simp; done)
                                | (refine cb ?_; rw [(m0 hM0).2]; simp; done)
                                | (refine cb ?_; have h3 := m5 hM0 (by simpa using s155); rw [g2]; simp; omega)
                                | (simp_all; done)
                                | fail
                          · -- s146 False
                            refine AO.yldG _ (Yld.move rfl) rfl rfl rfl rfl rfl ?_
                            refine AO.yldG _ (Yld.move rfl) rfl rfl rfl rfl rfl ?_
                            refine AO.yldG _ (Yld.int rfl rfl rfl) rfl rfl rfl rfl rfl ?_
                            refine AO.yldG _ (Yld.pickF rfl rfl) rfl rfl rfl rfl rfl ?_
                            refine AO.yld _ (Yld.pickT rfl rfl) rfl rfl rfl ?_
                            refine AO.yld _ (Yld.move rfl) rfl rfl rfl ?_
                            refine AO.splitAt 152 _ rfl (fun s152 => ?_) (fun s152 => ?_)
                            · -- s152 True
                              refine AO.yldG _ (Yld.move rfl) rfl rfl rfl rfl rfl ?_
                              refine AO.yldG _ (Yld.int rfl rfl rfl) rfl rfl rfl rfl rfl ?_
                              refine AO.yldG _ (Yld.move rfl) rfl rfl rfl rfl rfl ?_
                              refine AO.splitAt 155 _ rfl (fun s155 => ?_) (fun s155 => ?_)
                              · -- s155 True
                                refine AO.skipF rfl rfl rfl rfl rfl ?_
                                refine AO.skipF rfl rfl rfl rfl rfl ?_
                                refine AO.skipF rfl rfl rfl rfl rfl ?_
                                refine AO.yldG _ (Yld.pickT rfl rfl) rfl rfl rfl rfl rfl ?_
                                refine AO.yld _ (Yld.pickT rfl rfl) rfl rfl rfl ?_
                                refine AO.yld _ (Yld.assign rfl) rfl rfl rfl ?_
                                refine AO.nil ?_
                                refine Pure.ret Try.results6 (RVs.cons (RV.tmp rfl) RVs.nil) rfl ?_
                                first
                                  | rfl
                                  | (refine cb ?_; rw [first_bad hbad]; rfl)
                                  | (refine cb ?_; rw [first_bad hbad]; simp; done)
                                  | (refine cb ?_; rw [(m0 hM0).2]; simp; done)
                                  | (refine cb ?_; have h3 := m5 hM0 (by simpa using s155); rw [g2]; simp; omega)
                                  | (simp_all; done)
                                  | fail
                              · -- s155 False
                                refine AO.yldG _ (Yld.move rfl) rfl rfl rfl rfl rfl ?_
                                refine AO.yldG _ (Yld.move rfl) rfl rfl rfl rfl rfl ?_
                                refine AO.yldG _ (Yld.int rfl rfl rfl) rfl rfl rfl rfl rfl ?_
                                refine AO.yldG _ (Yld.pickF rfl rfl) rfl rfl rfl rfl rfl ?_
                                refine AO.yld _ (Yld.pickT rfl rfl) rfl rfl rfl ?_
                                refine AO.yld _ (Yld.assign rfl) rfl rfl rfl ?_
                                refine AO.nil ?_
                                refine Pure.ret Try.results6 (RVs.cons (RV.tmp rfl) RVs.nil) rfl ?_
                                first
                                  | rfl
                                  | (refine cb ?_; rw [first_bad hbad]; rfl)
                                  | (refine cb ?_; rw [first_bad hbad]; simp; done)
                                  | (refine cb ?_; rw [(m0 hM0).2]; simp; done)
                                  | (refine cb ?_; have h3 := m5 hM0 (by simpa using s155); rw [g2]; simp; omega)
                                  | (simp_all; done)
                                  | fail
                            · -- s152 False
                              exfalso; first | (have h := s152; rw [m4 hM0 (by simpa using s146), g2] at h; simp at h; done) | (simp at s152; done)
                        · -- s143 False
                          exfalso; have h := s143; rw [g1] at h; have := m3 hM0; simp at h; omega
                      · -- s138 False
                        exfalso; have h := s138; rw [m1 hM0] at h; simp at h
                    · -- s133 False
                      exfalso; have h := s133; rw [m1 hM0] at h; simp at h
                  · -- s129 False
                    exfalso; have h := s129; rw [m2 hM0] at h; simp at h

end Go.Proofs.Ytnejigdldeipdaa
