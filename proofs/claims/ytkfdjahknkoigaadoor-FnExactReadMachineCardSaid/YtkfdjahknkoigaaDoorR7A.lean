/- Contracts of functions of the program, each by a walk of its text in the calculus V. -/
import Derived.Test.YtkfdjahknkoigaaDoorXA
import Derived.Test.YtkfdjahknkoigaaDoorD43
import Derived.Test.YtkfdjahknkoigaaDoorV27
import Derived.Test.YtkfdjahknkoigaaDoorSh2
set_option linter.all false
set_option linter.unusedSimpArgs false
set_option linter.unnecessarySimpa false
set_option linter.unusedVariables false
namespace Go.Proofs.YtkfdjahknkoigaaDoor
open Go Go.V
theorem ty9 : TyIs Tryd.prog 9 (.string ⟨#[]⟩) 1 16 := by unfold TyIs; kernel_rfl
theorem bld23 : BuildIs Tryd.prog 23 [(0, 1), (1, 1)] (.agg #[.string ⟨#[]⟩, .int .i64 0]) := by
  intro ps cells w h
  have h2 : Instr.fill (fun i => ([(0, 1), (1, 1)] : List (Nat × Nat))[i]?) #[.string ⟨#[]⟩, .int .i64 0] ps.toList = some cells := h
  simp [Instr.build, go_sem, Tryd.zeroValue23, run_underlying Tryd.underlying23, Tryd.sizeOf2, Tryd.sizeOf9, h2]

theorem impl_Decimal_c {n : Int} (h0 : -9223372036854775808 ≤ n) (h1 : n ≤ 9223372036854775807) :
    FnE (α := Unit) Tryd.prog 35 [.p (.v (.int .i64 n))] [(0, powRE Tryd.prog)] [0] (fun _ => True) (fun _ => .p (.v (str (Lib.itoa n)))) (fun _ => [(0, powRE Tryd.prog)]) := by
  refine FnE.intro Tryd.func35 rfl Tryd.ntmps35 rfl rfl (fun w0 F0 η φ w => ?_)
  refine AC.seq ?_
  refine AC.region ?_
  refine AO.yld _ (Yld.assign rfl) rfl rfl rfl ?_
  refine AO.nil ?_
  refine AC.seq ?_
  refine AC.region ?_
  refine AO.yld _ (Yld.move rfl) rfl rfl rfl ?_
  refine AO.callW (wantedN rfl) [0] [0] [0] rfl rfl Tryd.call46 rfl (fmt_fnE ⟨Tryd.strconv_FormatInt_10⟩ (by omega) (by omega)) (.own rfl) rfl (fun _ => rfl) ⟨rfl, trivial⟩ rfl (fun _ => rfl) (fun _ => rfl) (fun _ _ => ?_)
  refine AO.yld _ (Yld.assign rfl) rfl rfl rfl ?_
  refine AO.nil ?_
  refine FnE.ret () [0] [0] Tryd.results35 (RVs.cons (RV.tmp rfl) RVs.nil) rfl rfl rfl ?_ ?_ ⟨⟨_, rfl, ?_⟩, trivial⟩
  · -- holds
    trivial
  · -- value
    rfl
  · -- thing 0
    first | rfl | exact vecE (by first | rfl | (simp_all; done) | grind) | (simp_all; done)

theorem parLib : ParInt Tryd.prog 34 where
  ok := fun s h v e w => (Tryd.strconv_ParseInt_10_at64_ok s h v e w).mono fun _ _ ⟨h1, h2⟩ => ⟨h1, h2.imp id fun ⟨t, ht⟩ => ⟨_, t, ht⟩⟩
  bad := fun s h e tp p w hv => (Tryd.strconv_ParseInt_10_at64_syntax_var s h e tp p w hv).mono fun _ _ ⟨_, h1, _, _, h4⟩ => ⟨⟨_, _, h1⟩, h4⟩

theorem spec_l01Number_c {s : List UInt8} (hs : s.length ≤ 1048576) :
    Pure Tryd.prog 16 [.v (str s)] (.tup [.v (.int .i64 ((readDec s).getD 0)), .v (.bool (readDec s).isSome)]) := by
  refine Pure.intro Tryd.func16 rfl Tryd.ntmps16 rfl rfl (fun w => ?_)
  refine AC.seq ?_
  refine AC.region ?_
  refine AO.yld _ (Yld.assign rfl) rfl rfl rfl ?_
  refine AO.yld _ (Yld.assign rfl) rfl rfl rfl ?_
  refine AO.nil ?_
  refine AC.seq ?_
  refine AC.region ?_
  refine AO.yld _ (Yld.assign rfl) rfl rfl rfl ?_
  refine AO.nil ?_
  refine AC.seq ?_
  refine AC.seq ?_
  refine AC.region ?_
  refine AO.yld _ (Yld.move rfl) rfl rfl rfl ?_
  refine AO.yld _ (Yld.lenStr Tryd.underlying9 rfl) rfl rfl rfl ?_
  refine AO.yld _ (Yld.int rfl rfl rfl) rfl rfl rfl ?_
  refine AO.yld _ (Yld.move rfl) rfl rfl rfl ?_
  refine AO.splitAt 10 _ rfl (fun s10 => ?_) (fun s10 => ?_)
  · -- s10 True
    have h10 := s10; simp only [decide_eq_true_eq, decide_eq_false_iff_not, beq_iff_eq, beq_eq_false_iff_ne, bne_iff_ne, bne_eq_false_iff_eq, ne_eq, Decidable.not_not] at h10
    obtain ⟨b0, hb0⟩ := get_some (xs := s) (k := 0) (by omega)
    refine AO.yldG _ (Yld.move rfl) rfl rfl rfl rfl rfl ?_
    refine AO.yldG _ (Yld.indexStr Tryd.underlying9 rfl rfl (by omega) hb0) rfl rfl rfl rfl rfl ?_
    refine AO.yldG _ (Yld.int rfl rfl rfl) rfl rfl rfl rfl rfl ?_
    refine AO.yld _ (Yld.pickT rfl rfl) rfl rfl rfl ?_
    refine AO.nil ?_
    refine AC.cond _ rfl (fun c14 => ?_) (fun c14 => ?_)
    · -- c14 True
      have h14 := c14; simp only [decide_eq_true_eq, decide_eq_false_iff_not, beq_iff_eq, beq_eq_false_iff_ne, bne_iff_ne, bne_eq_false_iff_eq, ne_eq, Decidable.not_not] at h14
      have hb9 : b0 = 45 := UInt8.toNat_inj.1 (by have : (45 : UInt8).toNat = 45 := rfl; omega)
      have hat : atOf s = 1 := at_one (by rw [hb0, hb9])
      refine AC.region ?_
      refine AO.yld _ (Yld.assign rfl) rfl rfl rfl ?_
      refine AO.nil ?_
      refine AC.seq ?_
      refine AC.seq ?_
      refine AC.region ?_
      refine AO.yld _ (Yld.move rfl) rfl rfl rfl ?_
      refine AO.yld _ (Yld.lenStr Tryd.underlying9 rfl) rfl rfl rfl ?_
      refine AO.yld _ (Yld.move rfl) rfl rfl rfl ?_
      refine AO.yld _ (Yld.int rfl rfl rfl) rfl rfl rfl ?_
      refine AO.yld _ (Yld.move rfl) rfl rfl rfl ?_
      refine AO.splitAt 19 _ rfl (fun s19 => ?_) (fun s19 => ?_)
      · -- s19 True
        have h19 := s19; simp only [decide_eq_true_eq, decide_eq_false_iff_not, beq_iff_eq, beq_eq_false_iff_ne, bne_iff_ne, bne_eq_false_iff_eq, ne_eq, Decidable.not_not] at h19
        have hno : readDec s = none := num_no (by rintro ⟨q1, q2, q3⟩; rw [mag_len, hat] at q1 q2; simp only [mag_get, hat] at q3; omega)
        refine AO.skipF rfl rfl rfl rfl rfl ?_
        refine AO.skipF rfl rfl rfl rfl rfl ?_
        refine AO.skipF rfl rfl rfl rfl rfl ?_
        refine AO.skipF rfl rfl rfl rfl rfl ?_
        refine AO.skipF rfl rfl rfl rfl rfl ?_
        refine AO.yld _ (Yld.pickT rfl rfl) rfl rfl rfl ?_
        refine AO.yld _ (Yld.move rfl) rfl rfl rfl ?_
        refine AO.skipF rfl rfl rfl rfl rfl ?_
        refine AO.skipF rfl rfl rfl rfl rfl ?_
        refine AO.skipF rfl rfl rfl rfl rfl ?_
        refine AO.skipF rfl rfl rfl rfl rfl ?_
        refine AO.skipF rfl rfl rfl rfl rfl ?_
        refine AO.skipU rfl rfl rfl rfl rfl ?_
        refine AO.skipU rfl rfl rfl rfl rfl ?_
        refine AO.skipU rfl rfl rfl rfl rfl ?_
        refine AO.skipF rfl rfl rfl rfl rfl ?_
        refine AO.yld _ (Yld.pickT rfl rfl) rfl rfl rfl ?_
        refine AO.nil ?_
        refine AC.condT rfl ?_
        refine AC.seq ?_
        refine AC.region ?_
        refine AO.yld _ (Yld.assign rfl) rfl rfl rfl ?_
        refine AO.yld _ (Yld.assign rfl) rfl rfl rfl ?_
        refine AO.nil ?_
        refine Pure.retT Tryd.results16 (RVs.cons (RV.tmp rfl) (RVs.cons (RV.tmp rfl) RVs.nil)) rfl ?_
        first
          | (rw [hno]; rfl)
          | (rw [hfin, sign_one hat]; rfl)
          | (rw [hfin, sign_zero hat]; rfl)
          | (exfalso; simp at c58; done)
          | (exfalso; revert c58; decide)
      · -- s19 False
        have h19 := s19; simp only [decide_eq_true_eq, decide_eq_false_iff_not, beq_iff_eq, beq_eq_false_iff_ne, bne_iff_ne, bne_eq_false_iff_eq, ne_eq, Decidable.not_not] at h19
        refine AO.yldG _ (Yld.move rfl) rfl rfl rfl rfl rfl ?_
        refine AO.yldG _ (Yld.lenStr Tryd.underlying9 rfl) rfl rfl rfl rfl rfl ?_
        refine AO.yldG _ (Yld.move rfl) rfl rfl rfl rfl rfl ?_
        refine AO.yldG _ (Yld.sub rfl rfl (by omega) (by omega)) rfl rfl rfl rfl rfl ?_
        refine AO.yldG _ (Yld.int rfl rfl rfl) rfl rfl rfl rfl rfl ?_
        refine AO.yld _ (Yld.pickF rfl rfl) rfl rfl rfl ?_
        refine AO.yld _ (Yld.move rfl) rfl rfl rfl ?_
        refine AO.splitAt 26 _ rfl (fun s26 => ?_) (fun s26 => ?_)
        · -- s26 True
          have h26 := s26; simp only [decide_eq_true_eq, decide_eq_false_iff_not, beq_iff_eq, beq_eq_false_iff_ne, bne_iff_ne, bne_eq_false_iff_eq, ne_eq, Decidable.not_not] at h26
          have hno : readDec s = none := num_no (by rintro ⟨q1, q2, q3⟩; rw [mag_len, hat] at q1 q2; simp only [mag_get, hat] at q3; omega)
          refine AO.skipF rfl rfl rfl rfl rfl ?_
          refine AO.skipF rfl rfl rfl rfl rfl ?_
          refine AO.skipF rfl rfl rfl rfl rfl ?_
          refine AO.skipF rfl rfl rfl rfl rfl ?_
          refine AO.skipF rfl rfl rfl rfl rfl ?_
          refine AO.skipU rfl rfl rfl rfl rfl ?_
          refine AO.skipU rfl rfl rfl rfl rfl ?_
          refine AO.skipU rfl rfl rfl rfl rfl ?_
          refine AO.skipF rfl rfl rfl rfl rfl ?_
          refine AO.yld _ (Yld.pickT rfl rfl) rfl rfl rfl ?_
          refine AO.nil ?_
          refine AC.condT rfl ?_
          refine AC.seq ?_
          refine AC.region ?_
          refine AO.yld _ (Yld.assign rfl) rfl rfl rfl ?_
          refine AO.yld _ (Yld.assign rfl) rfl rfl rfl ?_
          refine AO.nil ?_
          refine Pure.retT Tryd.results16 (RVs.cons (RV.tmp rfl) (RVs.cons (RV.tmp rfl) RVs.nil)) rfl ?_
          first
            | (rw [hno]; rfl)
            | (rw [hfin, sign_one hat]; rfl)
            | (rw [hfin, sign_zero hat]; rfl)
            | (exfalso; simp at c58; done)
            | (exfalso; revert c58; decide)
        · -- s26 False
          have h26 := s26; simp only [decide_eq_true_eq, decide_eq_false_iff_not, beq_iff_eq, beq_eq_false_iff_ne, bne_iff_ne, bne_eq_false_iff_eq, ne_eq, Decidable.not_not] at h26
          obtain ⟨c1, hc1⟩ := get_some (xs := s) (k := atOf s) (by rw [hat]; omega)
          rw [hat] at hc1
          have hc1m : (mag s)[0]? = some c1 := by rw [mag_get, hat]; exact hc1
          refine AO.yldG _ (Yld.move rfl) rfl rfl rfl rfl rfl ?_
          refine AO.yldG _ (Yld.move rfl) rfl rfl rfl rfl rfl ?_
          refine AO.yldG _ (Yld.indexStr Tryd.underlying9 rfl rfl (by omega) hc1) rfl rfl rfl rfl rfl ?_
          refine AO.yldG _ (Yld.int rfl rfl rfl) rfl rfl rfl rfl rfl ?_
          refine AO.yldG _ (Yld.move rfl) rfl rfl rfl rfl rfl ?_
          refine AO.splitAt 31 _ rfl (fun s31 => ?_) (fun s31 => ?_)
          · -- s31 True
            have h31 := s31; simp only [decide_eq_true_eq, decide_eq_false_iff_not, beq_iff_eq, beq_eq_false_iff_ne, bne_iff_ne, bne_eq_false_iff_eq, ne_eq, Decidable.not_not] at h31
            have hc48 : c1 = 48 := UInt8.toNat_inj.1 (by have : (48 : UInt8).toNat = 48 := rfl; omega)
            refine AO.yldG _ (Yld.move rfl) rfl rfl rfl rfl rfl ?_
            refine AO.yldG _ (Yld.lenStr Tryd.underlying9 rfl) rfl rfl rfl rfl rfl ?_
            refine AO.yldG _ (Yld.int rfl rfl rfl) rfl rfl rfl rfl rfl ?_
            refine AO.yldG _ (Yld.pickT rfl rfl) rfl rfl rfl rfl rfl ?_
            refine AO.yld _ (Yld.pickF rfl rfl) rfl rfl rfl ?_
            refine AO.nil ?_
            refine AC.cond _ rfl (fun c36 => ?_) (fun c36 => ?_)
            · -- c36 True
              have h36 := c36; simp only [decide_eq_true_eq, decide_eq_false_iff_not, beq_iff_eq, beq_eq_false_iff_ne, bne_iff_ne, bne_eq_false_iff_eq, ne_eq, Decidable.not_not] at h36
              have hno : readDec s = none := num_no (fun q => q.2.2 ⟨by rw [hc1m, hc48], by omega⟩)
              refine AC.seq ?_
              refine AC.region ?_
              refine AO.yld _ (Yld.assign rfl) rfl rfl rfl ?_
              refine AO.yld _ (Yld.assign rfl) rfl rfl rfl ?_
              refine AO.nil ?_
              refine Pure.retT Tryd.results16 (RVs.cons (RV.tmp rfl) (RVs.cons (RV.tmp rfl) RVs.nil)) rfl ?_
              first
                | (rw [hno]; rfl)
                | (rw [hfin, sign_one hat]; rfl)
                | (rw [hfin, sign_zero hat]; rfl)
                | (exfalso; simp at c58; done)
                | (exfalso; revert c58; decide)
            · -- c36 False
              have h36 := c36; simp only [decide_eq_true_eq, decide_eq_false_iff_not, beq_iff_eq, beq_eq_false_iff_ne, bne_iff_ne, bne_eq_false_iff_eq, ne_eq, Decidable.not_not] at h36
              have hyes : 1 ≤ (mag s).length ∧ (mag s).length ≤ 18 ∧ ¬ ((mag s)[0]? = some 48 ∧ 1 < s.length) := ⟨by rw [mag_len, hat]; omega, by rw [mag_len, hat]; omega, fun h => by omega⟩
              have hml := mag_len s
              refine AC.skip ?_
              refine AC.seq ?_
              refine AC.region ?_
              refine AO.yld _ (Yld.assign rfl) rfl rfl rfl ?_
              refine AO.nil ?_
              refine AC.seq ?_
              refine AC.seq ?_
              refine AC.region ?_
              refine AO.yld _ (Yld.move rfl) rfl rfl rfl ?_
              refine AO.yld _ (Yld.assign rfl) rfl rfl rfl ?_
              refine AO.nil ?_
              refine AC.block ?_
              refine AC.loopC2 [(0, _), (4, _)] [] (fun (k nv : Nat) => [(6, .p (.v (.int .i64 ((atOf s + k : Nat) : Int)))), (5, .p (.v (.int .i64 (nv : Int))))]) (fun (k nv : Nat) => []) (fun (k nv : Nat) => k ≤ (mag s).length ∧ Lib.decFrom 0 ((mag s).take k) = some nv) (fun (k nv : Nat) => (mag s).length - k) 0 0 ⟨rfl, rfl, trivial⟩ trivial ⟨by rw [hat]; rfl, rfl, trivial⟩ trivial ?_ (fun k nv hJ => ?_)
              · exact ⟨Nat.zero_le _, rfl⟩
              · -- round
                refine AC.seq ?_
                refine AC.seq ?_
                refine AC.region ?_
                refine AO.yld _ (Yld.move rfl) rfl rfl rfl ?_
                refine AO.yld _ (Yld.move rfl) rfl rfl rfl ?_
                refine AO.yld _ (Yld.lenStr Tryd.underlying9 rfl) rfl rfl rfl ?_
                refine AO.yld _ (Yld.int rfl rfl rfl) rfl rfl rfl ?_
                refine AO.nil ?_
                refine AC.cond _ rfl (fun c41 => ?_) (fun c41 => ?_)
                · -- c41 True
                  have hk : k < (mag s).length := by have h := c41; simp only [decide_eq_true_eq] at h; omega
                  obtain ⟨c, hc9⟩ := get_some hk
                  have hc : s[((atOf s + k : Nat) : Int).toNat]? = some c := by rw [Int.toNat_natCast, ← mag_get]; exact hc9
                  have hnv := dec_lim (by omega) hJ.2
                  refine AC.skip ?_
                  refine AC.seq ?_
                  refine AC.block ?_
                  refine AC.seq ?_
                  refine AC.seq ?_
                  refine AC.region ?_
                  refine AO.yld _ (Yld.move rfl) rfl rfl rfl ?_
                  refine AO.yld _ (Yld.move rfl) rfl rfl rfl ?_
                  refine AO.yld _ (Yld.indexStr Tryd.underlying9 rfl rfl (by omega) hc) rfl rfl rfl ?_
                  refine AO.yld _ (Yld.call rfl rfl Tryd.call29 rfl rfl rfl (spec_l01Digit_c) rfl) rfl rfl rfl ?_
                  refine AO.yld _ (Yld.not rfl) rfl rfl rfl ?_
                  refine AO.nil ?_
                  refine AC.cond _ rfl (fun c48 => ?_) (fun c48 => ?_)
                  · -- c48 True
                    have hnd : ¬ (48 ≤ (c.toNat : Int) ∧ (c.toNat : Int) ≤ 57) := by have h := c48; simp only [Bool.not_eq_true', Bool.and_eq_false_iff, decide_eq_false_iff_not] at h; omega
                    have hno : readDec s = none := num_bad hc9 (digit_none hnd)
                    refine AC.seq ?_
                    refine AC.region ?_
                    refine AO.yld _ (Yld.assign rfl) rfl rfl rfl ?_
                    refine AO.yld _ (Yld.assign rfl) rfl rfl rfl ?_
                    refine AO.nil ?_
                    refine Pure.retT Tryd.results16 (RVs.cons (RV.tmp rfl) (RVs.cons (RV.tmp rfl) RVs.nil)) rfl ?_
                    first
                      | (rw [hno]; rfl)
                      | (rw [hfin, sign_one hat]; rfl)
                      | (rw [hfin, sign_zero hat]; rfl)
                      | (exfalso; simp at c58; done)
                      | (exfalso; revert c58; decide)
                  · -- c48 False
                    have hnd : 48 ≤ (c.toNat : Int) ∧ (c.toNat : Int) ≤ 57 := by have h := c48; simp only [Bool.not_eq_false', Bool.and_eq_true, decide_eq_true_eq] at h; exact h
                    have hw9 := digit_wrap hnd
                    refine AC.skip ?_
                    refine AC.region ?_
                    refine AO.yld _ (Yld.move rfl) rfl rfl rfl ?_
                    refine AO.yld _ (Yld.mul rfl rfl (by omega) (by omega)) rfl rfl rfl ?_
                    refine AO.yld _ (Yld.move rfl) rfl rfl rfl ?_
                    refine AO.yld _ (Yld.move rfl) rfl rfl rfl ?_
                    refine AO.yld _ (Yld.indexStr Tryd.underlying9 rfl rfl (by omega) hc) rfl rfl rfl ?_
                    refine AO.yld _ (Yld.int rfl rfl rfl) rfl rfl rfl ?_
                    refine AO.yld _ (Yld.convInt Tryd.underlying5 Tryd.underlying2 rfl) rfl rfl rfl ?_
                    refine AO.yld _ (Yld.add rfl rfl (by omega) (by omega)) rfl rfl rfl ?_
                    refine AO.yld _ (Yld.assign rfl) rfl rfl rfl ?_
                    refine AO.nil ?_
                    refine AC.mark ?_
                    refine AC.region ?_
                    refine AO.yld _ (Yld.move rfl) rfl rfl rfl ?_
                    refine AO.yld _ (Yld.add rfl rfl (by omega) (by omega)) rfl rfl rfl ?_
                    refine AO.yld _ (Yld.assign rfl) rfl rfl rfl ?_
                    refine AO.nil ?_
                    refine AC.back ⟨k + 1, nv * 10 + (c.toNat - 48), ?_, ?_, ⟨?_, ?_, trivial⟩, trivial, ⟨rfl, rfl, trivial⟩, trivial⟩
                    · exact ⟨hk, dec_step hJ.2 hc9 (digit_some hnd)⟩
                    · omega
                    · rfl
                    · show some (AV.p (PV.v (Value.int IntKind.i64 _))) = _; congr 4; rw [hw9]; omega
                · -- c41 False
                  obtain rfl : k = (mag s).length := by have h := c41; simp only [decide_eq_false_iff_not] at h; omega
                  have hdf : Lib.decFrom 0 (mag s) = some nv := by have := hJ.2; rw [List.take_of_length_le (Nat.le_refl _)] at this; exact this
                  have hfin := num_yes hyes hdf
                  have hnv := dec_lim2 hyes.2.1 hdf
                  refine AC.exit rfl ?_
                  refine AC.seq ?_
                  refine AC.seq ?_
                  refine AC.region ?_
                  refine AO.yld _ (Yld.move rfl) rfl rfl rfl ?_
                  refine AO.yld _ (Yld.int rfl rfl rfl) rfl rfl rfl ?_
                  refine AO.nil ?_
                  refine AC.cond _ rfl (fun c58 => ?_) (fun c58 => ?_)
                  · -- c58 True
                    refine AC.region ?_
                    refine AO.yld _ (Yld.move rfl) rfl rfl rfl ?_
                    refine AO.yld _ (Yld.negN rfl (by omega) (by omega)) rfl rfl rfl ?_
                    refine AO.yld _ (Yld.assign rfl) rfl rfl rfl ?_
                    refine AO.nil ?_
                    refine AC.seq ?_
                    refine AC.region ?_
                    refine AO.yld _ (Yld.move rfl) rfl rfl rfl ?_
                    refine AO.yld _ (Yld.assign rfl) rfl rfl rfl ?_
                    refine AO.yld _ (Yld.assign rfl) rfl rfl rfl ?_
                    refine AO.nil ?_
                    refine Pure.retT Tryd.results16 (RVs.cons (RV.tmp rfl) (RVs.cons (RV.tmp rfl) RVs.nil)) rfl ?_
                    first
                      | (rw [hno]; rfl)
                      | (rw [hfin, sign_one hat]; rfl)
                      | (rw [hfin, sign_zero hat]; rfl)
                      | (exfalso; simp at c58; done)
                      | (exfalso; revert c58; decide)
                  · -- c58 False
                    refine AC.skip ?_
                    refine AC.seq ?_
                    refine AC.region ?_
                    refine AO.yld _ (Yld.move rfl) rfl rfl rfl ?_
                    refine AO.yld _ (Yld.assign rfl) rfl rfl rfl ?_
                    refine AO.yld _ (Yld.assign rfl) rfl rfl rfl ?_
                    refine AO.nil ?_
                    refine Pure.retT Tryd.results16 (RVs.cons (RV.tmp rfl) (RVs.cons (RV.tmp rfl) RVs.nil)) rfl ?_
                    first
                      | (rw [hno]; rfl)
                      | (rw [hfin, sign_one hat]; rfl)
                      | (rw [hfin, sign_zero hat]; rfl)
                      | (exfalso; simp at c58; done)
                      | (exfalso; revert c58; decide)
          · -- s31 False
            have h31 := s31; simp only [decide_eq_true_eq, decide_eq_false_iff_not, beq_iff_eq, beq_eq_false_iff_ne, bne_iff_ne, bne_eq_false_iff_eq, ne_eq, Decidable.not_not] at h31
            have hc48 : c1 ≠ 48 := fun e => by subst e; exact h31 rfl
            have hyes : 1 ≤ (mag s).length ∧ (mag s).length ≤ 18 ∧ ¬ ((mag s)[0]? = some 48 ∧ 1 < s.length) := ⟨by rw [mag_len, hat]; omega, by rw [mag_len, hat]; omega, fun h => hc48 (by rw [hc1m] at h; exact Option.some.inj h.1)⟩
            have hml := mag_len s
            refine AO.skipT rfl rfl rfl rfl rfl ?_
            refine AO.skipT rfl rfl rfl rfl rfl ?_
            refine AO.skipT rfl rfl rfl rfl rfl ?_
            refine AO.yldG _ (Yld.pickF rfl rfl) rfl rfl rfl rfl rfl ?_
            refine AO.yld _ (Yld.pickF rfl rfl) rfl rfl rfl ?_
            refine AO.nil ?_
            refine AC.condF rfl ?_
            refine AC.skip ?_
            refine AC.seq ?_
            refine AC.region ?_
            refine AO.yld _ (Yld.assign rfl) rfl rfl rfl ?_
            refine AO.nil ?_
            refine AC.seq ?_
            refine AC.seq ?_
            refine AC.region ?_
            refine AO.yld _ (Yld.move rfl) rfl rfl rfl ?_
            refine AO.yld _ (Yld.assign rfl) rfl rfl rfl ?_
            refine AO.nil ?_
            refine AC.block ?_
            refine AC.loopC2 [(0, _), (4, _)] [] (fun (k nv : Nat) => [(6, .p (.v (.int .i64 ((atOf s + k : Nat) : Int)))), (5, .p (.v (.int .i64 (nv : Int))))]) (fun (k nv : Nat) => []) (fun (k nv : Nat) => k ≤ (mag s).length ∧ Lib.decFrom 0 ((mag s).take k) = some nv) (fun (k nv : Nat) => (mag s).length - k) 0 0 ⟨rfl, rfl, trivial⟩ trivial ⟨by rw [hat]; rfl, rfl, trivial⟩ trivial ?_ (fun k nv hJ => ?_)
            · exact ⟨Nat.zero_le _, rfl⟩
            · -- round
              refine AC.seq ?_
              refine AC.seq ?_
              refine AC.region ?_
              refine AO.yld _ (Yld.move rfl) rfl rfl rfl ?_
              refine AO.yld _ (Yld.move rfl) rfl rfl rfl ?_
              refine AO.yld _ (Yld.lenStr Tryd.underlying9 rfl) rfl rfl rfl ?_
              refine AO.yld _ (Yld.int rfl rfl rfl) rfl rfl rfl ?_
              refine AO.nil ?_
              refine AC.cond _ rfl (fun c41 => ?_) (fun c41 => ?_)
              · -- c41 True
                have hk : k < (mag s).length := by have h := c41; simp only [decide_eq_true_eq] at h; omega
                obtain ⟨c, hc9⟩ := get_some hk
                have hc : s[((atOf s + k : Nat) : Int).toNat]? = some c := by rw [Int.toNat_natCast, ← mag_get]; exact hc9
                have hnv := dec_lim (by omega) hJ.2
                refine AC.skip ?_
                refine AC.seq ?_
                refine AC.block ?_
                refine AC.seq ?_
                refine AC.seq ?_
                refine AC.region ?_
                refine AO.yld _ (Yld.move rfl) rfl rfl rfl ?_
                refine AO.yld _ (Yld.move rfl) rfl rfl rfl ?_
                refine AO.yld _ (Yld.indexStr Tryd.underlying9 rfl rfl (by omega) hc) rfl rfl rfl ?_
                refine AO.yld _ (Yld.call rfl rfl Tryd.call29 rfl rfl rfl (spec_l01Digit_c) rfl) rfl rfl rfl ?_
                refine AO.yld _ (Yld.not rfl) rfl rfl rfl ?_
                refine AO.nil ?_
                refine AC.cond _ rfl (fun c48 => ?_) (fun c48 => ?_)
                · -- c48 True
                  have hnd : ¬ (48 ≤ (c.toNat : Int) ∧ (c.toNat : Int) ≤ 57) := by have h := c48; simp only [Bool.not_eq_true', Bool.and_eq_false_iff, decide_eq_false_iff_not] at h; omega
                  have hno : readDec s = none := num_bad hc9 (digit_none hnd)
                  refine AC.seq ?_
                  refine AC.region ?_
                  refine AO.yld _ (Yld.assign rfl) rfl rfl rfl ?_
                  refine AO.yld _ (Yld.assign rfl) rfl rfl rfl ?_
                  refine AO.nil ?_
                  refine Pure.retT Tryd.results16 (RVs.cons (RV.tmp rfl) (RVs.cons (RV.tmp rfl) RVs.nil)) rfl ?_
                  first
                    | (rw [hno]; rfl)
                    | (rw [hfin, sign_one hat]; rfl)
                    | (rw [hfin, sign_zero hat]; rfl)
                    | (exfalso; simp at c58; done)
                    | (exfalso; revert c58; decide)
                · -- c48 False
                  have hnd : 48 ≤ (c.toNat : Int) ∧ (c.toNat : Int) ≤ 57 := by have h := c48; simp only [Bool.not_eq_false', Bool.and_eq_true, decide_eq_true_eq] at h; exact h
                  have hw9 := digit_wrap hnd
                  refine AC.skip ?_
                  refine AC.region ?_
                  refine AO.yld _ (Yld.move rfl) rfl rfl rfl ?_
                  refine AO.yld _ (Yld.mul rfl rfl (by omega) (by omega)) rfl rfl rfl ?_
                  refine AO.yld _ (Yld.move rfl) rfl rfl rfl ?_
                  refine AO.yld _ (Yld.move rfl) rfl rfl rfl ?_
                  refine AO.yld _ (Yld.indexStr Tryd.underlying9 rfl rfl (by omega) hc) rfl rfl rfl ?_
                  refine AO.yld _ (Yld.int rfl rfl rfl) rfl rfl rfl ?_
                  refine AO.yld _ (Yld.convInt Tryd.underlying5 Tryd.underlying2 rfl) rfl rfl rfl ?_
                  refine AO.yld _ (Yld.add rfl rfl (by omega) (by omega)) rfl rfl rfl ?_
                  refine AO.yld _ (Yld.assign rfl) rfl rfl rfl ?_
                  refine AO.nil ?_
                  refine AC.mark ?_
                  refine AC.region ?_
                  refine AO.yld _ (Yld.move rfl) rfl rfl rfl ?_
                  refine AO.yld _ (Yld.add rfl rfl (by omega) (by omega)) rfl rfl rfl ?_
                  refine AO.yld _ (Yld.assign rfl) rfl rfl rfl ?_
                  refine AO.nil ?_
                  refine AC.back ⟨k + 1, nv * 10 + (c.toNat - 48), ?_, ?_, ⟨?_, ?_, trivial⟩, trivial, ⟨rfl, rfl, trivial⟩, trivial⟩
                  · exact ⟨hk, dec_step hJ.2 hc9 (digit_some hnd)⟩
                  · omega
                  · rfl
                  · show some (AV.p (PV.v (Value.int IntKind.i64 _))) = _; congr 4; rw [hw9]; omega
              · -- c41 False
                obtain rfl : k = (mag s).length := by have h := c41; simp only [decide_eq_false_iff_not] at h; omega
                have hdf : Lib.decFrom 0 (mag s) = some nv := by have := hJ.2; rw [List.take_of_length_le (Nat.le_refl _)] at this; exact this
                have hfin := num_yes hyes hdf
                have hnv := dec_lim2 hyes.2.1 hdf
                refine AC.exit rfl ?_
                refine AC.seq ?_
                refine AC.seq ?_
                refine AC.region ?_
                refine AO.yld _ (Yld.move rfl) rfl rfl rfl ?_
                refine AO.yld _ (Yld.int rfl rfl rfl) rfl rfl rfl ?_
                refine AO.nil ?_
                refine AC.cond _ rfl (fun c58 => ?_) (fun c58 => ?_)
                · -- c58 True
                  refine AC.region ?_
                  refine AO.yld _ (Yld.move rfl) rfl rfl rfl ?_
                  refine AO.yld _ (Yld.negN rfl (by omega) (by omega)) rfl rfl rfl ?_
                  refine AO.yld _ (Yld.assign rfl) rfl rfl rfl ?_
                  refine AO.nil ?_
                  refine AC.seq ?_
                  refine AC.region ?_
                  refine AO.yld _ (Yld.move rfl) rfl rfl rfl ?_
                  refine AO.yld _ (Yld.assign rfl) rfl rfl rfl ?_
                  refine AO.yld _ (Yld.assign rfl) rfl rfl rfl ?_
                  refine AO.nil ?_
                  refine Pure.retT Tryd.results16 (RVs.cons (RV.tmp rfl) (RVs.cons (RV.tmp rfl) RVs.nil)) rfl ?_
                  first
                    | (rw [hno]; rfl)
                    | (rw [hfin, sign_one hat]; rfl)
                    | (rw [hfin, sign_zero hat]; rfl)
                    | (exfalso; simp at c58; done)
                    | (exfalso; revert c58; decide)
                · -- c58 False
                  refine AC.skip ?_
                  refine AC.seq ?_
                  refine AC.region ?_
                  refine AO.yld _ (Yld.move rfl) rfl rfl rfl ?_
                  refine AO.yld _ (Yld.assign rfl) rfl rfl rfl ?_
                  refine AO.yld _ (Yld.assign rfl) rfl rfl rfl ?_
                  refine AO.nil ?_
                  refine Pure.retT Tryd.results16 (RVs.cons (RV.tmp rfl) (RVs.cons (RV.tmp rfl) RVs.nil)) rfl ?_
                  first
                    | (rw [hno]; rfl)
                    | (rw [hfin, sign_one hat]; rfl)
                    | (rw [hfin, sign_zero hat]; rfl)
                    | (exfalso; simp at c58; done)
                    | (exfalso; revert c58; decide)
    · -- c14 False
      have h14 := c14; simp only [decide_eq_true_eq, decide_eq_false_iff_not, beq_iff_eq, beq_eq_false_iff_ne, bne_iff_ne, bne_eq_false_iff_eq, ne_eq, Decidable.not_not] at h14
      have hb9 : b0 ≠ 45 := fun e => by subst e; exact h14 rfl
      have hat : atOf s = 0 := at_zero (by rw [hb0]; simpa using hb9)
      refine AC.skip ?_
      refine AC.seq ?_
      refine AC.seq ?_
      refine AC.region ?_
      refine AO.yld _ (Yld.move rfl) rfl rfl rfl ?_
      refine AO.yld _ (Yld.lenStr Tryd.underlying9 rfl) rfl rfl rfl ?_
      refine AO.yld _ (Yld.move rfl) rfl rfl rfl ?_
      refine AO.yld _ (Yld.int rfl rfl rfl) rfl rfl rfl ?_
      refine AO.yld _ (Yld.move rfl) rfl rfl rfl ?_
      refine AO.splitAt 19 _ rfl (fun s19 => ?_) (fun s19 => ?_)
      · -- s19 True
        have h19 := s19; simp only [decide_eq_true_eq, decide_eq_false_iff_not, beq_iff_eq, beq_eq_false_iff_ne, bne_iff_ne, bne_eq_false_iff_eq, ne_eq, Decidable.not_not] at h19
        have hno : readDec s = none := num_no (by rintro ⟨q1, q2, q3⟩; rw [mag_len, hat] at q1 q2; simp only [mag_get, hat] at q3; omega)
        refine AO.skipF rfl rfl rfl rfl rfl ?_
        refine AO.skipF rfl rfl rfl rfl rfl ?_
        refine AO.skipF rfl rfl rfl rfl rfl ?_
        refine AO.skipF rfl rfl rfl rfl rfl ?_
        refine AO.skipF rfl rfl rfl rfl rfl ?_
        refine AO.yld _ (Yld.pickT rfl rfl) rfl rfl rfl ?_
        refine AO.yld _ (Yld.move rfl) rfl rfl rfl ?_
        refine AO.skipF rfl rfl rfl rfl rfl ?_
        refine AO.skipF rfl rfl rfl rfl rfl ?_
        refine AO.skipF rfl rfl rfl rfl rfl ?_
        refine AO.skipF rfl rfl rfl rfl rfl ?_
        refine AO.skipF rfl rfl rfl rfl rfl ?_
        refine AO.skipU rfl rfl rfl rfl rfl ?_
        refine AO.skipU rfl rfl rfl rfl rfl ?_
        refine AO.skipU rfl rfl rfl rfl rfl ?_
        refine AO.skipF rfl rfl rfl rfl rfl ?_
        refine AO.yld _ (Yld.pickT rfl rfl) rfl rfl rfl ?_
        refine AO.nil ?_
        refine AC.condT rfl ?_
        refine AC.seq ?_
        refine AC.region ?_
        refine AO.yld _ (Yld.assign rfl) rfl rfl rfl ?_
        refine AO.yld _ (Yld.assign rfl) rfl rfl rfl ?_
        refine AO.nil ?_
        refine Pure.retT Tryd.results16 (RVs.cons (RV.tmp rfl) (RVs.cons (RV.tmp rfl) RVs.nil)) rfl ?_
        first
          | (rw [hno]; rfl)
          | (rw [hfin, sign_one hat]; rfl)
          | (rw [hfin, sign_zero hat]; rfl)
          | (exfalso; simp at c58; done)
          | (exfalso; revert c58; decide)
      · -- s19 False
        have h19 := s19; simp only [decide_eq_true_eq, decide_eq_false_iff_not, beq_iff_eq, beq_eq_false_iff_ne, bne_iff_ne, bne_eq_false_iff_eq, ne_eq, Decidable.not_not] at h19
        refine AO.yldG _ (Yld.move rfl) rfl rfl rfl rfl rfl ?_
        refine AO.yldG _ (Yld.lenStr Tryd.underlying9 rfl) rfl rfl rfl rfl rfl ?_
        refine AO.yldG _ (Yld.move rfl) rfl rfl rfl rfl rfl ?_
        refine AO.yldG _ (Yld.sub rfl rfl (by omega) (by omega)) rfl rfl rfl rfl rfl ?_
        refine AO.yldG _ (Yld.int rfl rfl rfl) rfl rfl rfl rfl rfl ?_
        refine AO.yld _ (Yld.pickF rfl rfl) rfl rfl rfl ?_
        refine AO.yld _ (Yld.move rfl) rfl rfl rfl ?_
        refine AO.splitAt 26 _ rfl (fun s26 => ?_) (fun s26 => ?_)
        · -- s26 True
          have h26 := s26; simp only [decide_eq_true_eq, decide_eq_false_iff_not, beq_iff_eq, beq_eq_false_iff_ne, bne_iff_ne, bne_eq_false_iff_eq, ne_eq, Decidable.not_not] at h26
          have hno : readDec s = none := num_no (by rintro ⟨q1, q2, q3⟩; rw [mag_len, hat] at q1 q2; simp only [mag_get, hat] at q3; omega)
          refine AO.skipF rfl rfl rfl rfl rfl ?_
          refine AO.skipF rfl rfl rfl rfl rfl ?_
          refine AO.skipF rfl rfl rfl rfl rfl ?_
          refine AO.skipF rfl rfl rfl rfl rfl ?_
          refine AO.skipF rfl rfl rfl rfl rfl ?_
          refine AO.skipU rfl rfl rfl rfl rfl ?_
          refine AO.skipU rfl rfl rfl rfl rfl ?_
          refine AO.skipU rfl rfl rfl rfl rfl ?_
          refine AO.skipF rfl rfl rfl rfl rfl ?_
          refine AO.yld _ (Yld.pickT rfl rfl) rfl rfl rfl ?_
          refine AO.nil ?_
          refine AC.condT rfl ?_
          refine AC.seq ?_
          refine AC.region ?_
          refine AO.yld _ (Yld.assign rfl) rfl rfl rfl ?_
          refine AO.yld _ (Yld.assign rfl) rfl rfl rfl ?_
          refine AO.nil ?_
          refine Pure.retT Tryd.results16 (RVs.cons (RV.tmp rfl) (RVs.cons (RV.tmp rfl) RVs.nil)) rfl ?_
          first
            | (rw [hno]; rfl)
            | (rw [hfin, sign_one hat]; rfl)
            | (rw [hfin, sign_zero hat]; rfl)
            | (exfalso; simp at c58; done)
            | (exfalso; revert c58; decide)
        · -- s26 False
          have h26 := s26; simp only [decide_eq_true_eq, decide_eq_false_iff_not, beq_iff_eq, beq_eq_false_iff_ne, bne_iff_ne, bne_eq_false_iff_eq, ne_eq, Decidable.not_not] at h26
          obtain ⟨c1, hc1⟩ := get_some (xs := s) (k := atOf s) (by rw [hat]; omega)
          rw [hat] at hc1
          have hc1m : (mag s)[0]? = some c1 := by rw [mag_get, hat]; exact hc1
          refine AO.yldG _ (Yld.move rfl) rfl rfl rfl rfl rfl ?_
          refine AO.yldG _ (Yld.move rfl) rfl rfl rfl rfl rfl ?_
          refine AO.yldG _ (Yld.indexStr Tryd.underlying9 rfl rfl (by omega) hc1) rfl rfl rfl rfl rfl ?_
          refine AO.yldG _ (Yld.int rfl rfl rfl) rfl rfl rfl rfl rfl ?_
          refine AO.yldG _ (Yld.move rfl) rfl rfl rfl rfl rfl ?_
          refine AO.splitAt 31 _ rfl (fun s31 => ?_) (fun s31 => ?_)
          · -- s31 True
            have h31 := s31; simp only [decide_eq_true_eq, decide_eq_false_iff_not, beq_iff_eq, beq_eq_false_iff_ne, bne_iff_ne, bne_eq_false_iff_eq, ne_eq, Decidable.not_not] at h31
            have hc48 : c1 = 48 := UInt8.toNat_inj.1 (by have : (48 : UInt8).toNat = 48 := rfl; omega)
            refine AO.yldG _ (Yld.move rfl) rfl rfl rfl rfl rfl ?_
            refine AO.yldG _ (Yld.lenStr Tryd.underlying9 rfl) rfl rfl rfl rfl rfl ?_
            refine AO.yldG _ (Yld.int rfl rfl rfl) rfl rfl rfl rfl rfl ?_
            refine AO.yldG _ (Yld.pickT rfl rfl) rfl rfl rfl rfl rfl ?_
            refine AO.yld _ (Yld.pickF rfl rfl) rfl rfl rfl ?_
            refine AO.nil ?_
            refine AC.cond _ rfl (fun c36 => ?_) (fun c36 => ?_)
            · -- c36 True
              have h36 := c36; simp only [decide_eq_true_eq, decide_eq_false_iff_not, beq_iff_eq, beq_eq_false_iff_ne, bne_iff_ne, bne_eq_false_iff_eq, ne_eq, Decidable.not_not] at h36
              have hno : readDec s = none := num_no (fun q => q.2.2 ⟨by rw [hc1m, hc48], by omega⟩)
              refine AC.seq ?_
              refine AC.region ?_
              refine AO.yld _ (Yld.assign rfl) rfl rfl rfl ?_
              refine AO.yld _ (Yld.assign rfl) rfl rfl rfl ?_
              refine AO.nil ?_
              refine Pure.retT Tryd.results16 (RVs.cons (RV.tmp rfl) (RVs.cons (RV.tmp rfl) RVs.nil)) rfl ?_
              first
                | (rw [hno]; rfl)
                | (rw [hfin, sign_one hat]; rfl)
                | (rw [hfin, sign_zero hat]; rfl)
                | (exfalso; simp at c58; done)
                | (exfalso; revert c58; decide)
            · -- c36 False
              have h36 := c36; simp only [decide_eq_true_eq, decide_eq_false_iff_not, beq_iff_eq, beq_eq_false_iff_ne, bne_iff_ne, bne_eq_false_iff_eq, ne_eq, Decidable.not_not] at h36
              have hyes : 1 ≤ (mag s).length ∧ (mag s).length ≤ 18 ∧ ¬ ((mag s)[0]? = some 48 ∧ 1 < s.length) := ⟨by rw [mag_len, hat]; omega, by rw [mag_len, hat]; omega, fun h => by omega⟩
              have hml := mag_len s
              refine AC.skip ?_
              refine AC.seq ?_
              refine AC.region ?_
              refine AO.yld _ (Yld.assign rfl) rfl rfl rfl ?_
              refine AO.nil ?_
              refine AC.seq ?_
              refine AC.seq ?_
              refine AC.region ?_
              refine AO.yld _ (Yld.move rfl) rfl rfl rfl ?_
              refine AO.yld _ (Yld.assign rfl) rfl rfl rfl ?_
              refine AO.nil ?_
              refine AC.block ?_
              refine AC.loopC2 [(0, _), (4, _)] [] (fun (k nv : Nat) => [(6, .p (.v (.int .i64 ((atOf s + k : Nat) : Int)))), (5, .p (.v (.int .i64 (nv : Int))))]) (fun (k nv : Nat) => []) (fun (k nv : Nat) => k ≤ (mag s).length ∧ Lib.decFrom 0 ((mag s).take k) = some nv) (fun (k nv : Nat) => (mag s).length - k) 0 0 ⟨rfl, rfl, trivial⟩ trivial ⟨by rw [hat]; rfl, rfl, trivial⟩ trivial ?_ (fun k nv hJ => ?_)
              · exact ⟨Nat.zero_le _, rfl⟩
              · -- round
                refine AC.seq ?_
                refine AC.seq ?_
                refine AC.region ?_
                refine AO.yld _ (Yld.move rfl) rfl rfl rfl ?_
                refine AO.yld _ (Yld.move rfl) rfl rfl rfl ?_
                refine AO.yld _ (Yld.lenStr Tryd.underlying9 rfl) rfl rfl rfl ?_
                refine AO.yld _ (Yld.int rfl rfl rfl) rfl rfl rfl ?_
                refine AO.nil ?_
                refine AC.cond _ rfl (fun c41 => ?_) (fun c41 => ?_)
                · -- c41 True
                  have hk : k < (mag s).length := by have h := c41; simp only [decide_eq_true_eq] at h; omega
                  obtain ⟨c, hc9⟩ := get_some hk
                  have hc : s[((atOf s + k : Nat) : Int).toNat]? = some c := by rw [Int.toNat_natCast, ← mag_get]; exact hc9
                  have hnv := dec_lim (by omega) hJ.2
                  refine AC.skip ?_
                  refine AC.seq ?_
                  refine AC.block ?_
                  refine AC.seq ?_
                  refine AC.seq ?_
                  refine AC.region ?_
                  refine AO.yld _ (Yld.move rfl) rfl rfl rfl ?_
                  refine AO.yld _ (Yld.move rfl) rfl rfl rfl ?_
                  refine AO.yld _ (Yld.indexStr Tryd.underlying9 rfl rfl (by omega) hc) rfl rfl rfl ?_
                  refine AO.yld _ (Yld.call rfl rfl Tryd.call29 rfl rfl rfl (spec_l01Digit_c) rfl) rfl rfl rfl ?_
                  refine AO.yld _ (Yld.not rfl) rfl rfl rfl ?_
                  refine AO.nil ?_
                  refine AC.cond _ rfl (fun c48 => ?_) (fun c48 => ?_)
                  · -- c48 True
                    have hnd : ¬ (48 ≤ (c.toNat : Int) ∧ (c.toNat : Int) ≤ 57) := by have h := c48; simp only [Bool.not_eq_true', Bool.and_eq_false_iff, decide_eq_false_iff_not] at h; omega
                    have hno : readDec s = none := num_bad hc9 (digit_none hnd)
                    refine AC.seq ?_
                    refine AC.region ?_
                    refine AO.yld _ (Yld.assign rfl) rfl rfl rfl ?_
                    refine AO.yld _ (Yld.assign rfl) rfl rfl rfl ?_
                    refine AO.nil ?_
                    refine Pure.retT Tryd.results16 (RVs.cons (RV.tmp rfl) (RVs.cons (RV.tmp rfl) RVs.nil)) rfl ?_
                    first
                      | (rw [hno]; rfl)
                      | (rw [hfin, sign_one hat]; rfl)
                      | (rw [hfin, sign_zero hat]; rfl)
                      | (exfalso; simp at c58; done)
                      | (exfalso; revert c58; decide)
                  · -- c48 False
                    have hnd : 48 ≤ (c.toNat : Int) ∧ (c.toNat : Int) ≤ 57 := by have h := c48; simp only [Bool.not_eq_false', Bool.and_eq_true, decide_eq_true_eq] at h; exact h
                    have hw9 := digit_wrap hnd
                    refine AC.skip ?_
                    refine AC.region ?_
                    refine AO.yld _ (Yld.move rfl) rfl rfl rfl ?_
                    refine AO.yld _ (Yld.mul rfl rfl (by omega) (by omega)) rfl rfl rfl ?_
                    refine AO.yld _ (Yld.move rfl) rfl rfl rfl ?_
                    refine AO.yld _ (Yld.move rfl) rfl rfl rfl ?_
                    refine AO.yld _ (Yld.indexStr Tryd.underlying9 rfl rfl (by omega) hc) rfl rfl rfl ?_
                    refine AO.yld _ (Yld.int rfl rfl rfl) rfl rfl rfl ?_
                    refine AO.yld _ (Yld.convInt Tryd.underlying5 Tryd.underlying2 rfl) rfl rfl rfl ?_
                    refine AO.yld _ (Yld.add rfl rfl (by omega) (by omega)) rfl rfl rfl ?_
                    refine AO.yld _ (Yld.assign rfl) rfl rfl rfl ?_
                    refine AO.nil ?_
                    refine AC.mark ?_
                    refine AC.region ?_
                    refine AO.yld _ (Yld.move rfl) rfl rfl rfl ?_
                    refine AO.yld _ (Yld.add rfl rfl (by omega) (by omega)) rfl rfl rfl ?_
                    refine AO.yld _ (Yld.assign rfl) rfl rfl rfl ?_
                    refine AO.nil ?_
                    refine AC.back ⟨k + 1, nv * 10 + (c.toNat - 48), ?_, ?_, ⟨?_, ?_, trivial⟩, trivial, ⟨rfl, rfl, trivial⟩, trivial⟩
                    · exact ⟨hk, dec_step hJ.2 hc9 (digit_some hnd)⟩
                    · omega
                    · rfl
                    · show some (AV.p (PV.v (Value.int IntKind.i64 _))) = _; congr 4; rw [hw9]; omega
                · -- c41 False
                  obtain rfl : k = (mag s).length := by have h := c41; simp only [decide_eq_false_iff_not] at h; omega
                  have hdf : Lib.decFrom 0 (mag s) = some nv := by have := hJ.2; rw [List.take_of_length_le (Nat.le_refl _)] at this; exact this
                  have hfin := num_yes hyes hdf
                  have hnv := dec_lim2 hyes.2.1 hdf
                  refine AC.exit rfl ?_
                  refine AC.seq ?_
                  refine AC.seq ?_
                  refine AC.region ?_
                  refine AO.yld _ (Yld.move rfl) rfl rfl rfl ?_
                  refine AO.yld _ (Yld.int rfl rfl rfl) rfl rfl rfl ?_
                  refine AO.nil ?_
                  refine AC.cond _ rfl (fun c58 => ?_) (fun c58 => ?_)
                  · -- c58 True
                    refine AC.region ?_
                    refine AO.yld _ (Yld.move rfl) rfl rfl rfl ?_
                    refine AO.yld _ (Yld.negN rfl (by omega) (by omega)) rfl rfl rfl ?_
                    refine AO.yld _ (Yld.assign rfl) rfl rfl rfl ?_
                    refine AO.nil ?_
                    refine AC.seq ?_
                    refine AC.region ?_
                    refine AO.yld _ (Yld.move rfl) rfl rfl rfl ?_
                    refine AO.yld _ (Yld.assign rfl) rfl rfl rfl ?_
                    refine AO.yld _ (Yld.assign rfl) rfl rfl rfl ?_
                    refine AO.nil ?_
                    refine Pure.retT Tryd.results16 (RVs.cons (RV.tmp rfl) (RVs.cons (RV.tmp rfl) RVs.nil)) rfl ?_
                    first
                      | (rw [hno]; rfl)
                      | (rw [hfin, sign_one hat]; rfl)
                      | (rw [hfin, sign_zero hat]; rfl)
                      | (exfalso; simp at c58; done)
                      | (exfalso; revert c58; decide)
                  · -- c58 False
                    refine AC.skip ?_
                    refine AC.seq ?_
                    refine AC.region ?_
                    refine AO.yld _ (Yld.move rfl) rfl rfl rfl ?_
                    refine AO.yld _ (Yld.assign rfl) rfl rfl rfl ?_
                    refine AO.yld _ (Yld.assign rfl) rfl rfl rfl ?_
                    refine AO.nil ?_
                    refine Pure.retT Tryd.results16 (RVs.cons (RV.tmp rfl) (RVs.cons (RV.tmp rfl) RVs.nil)) rfl ?_
                    first
                      | (rw [hno]; rfl)
                      | (rw [hfin, sign_one hat]; rfl)
                      | (rw [hfin, sign_zero hat]; rfl)
                      | (exfalso; simp at c58; done)
                      | (exfalso; revert c58; decide)
          · -- s31 False
            have h31 := s31; simp only [decide_eq_true_eq, decide_eq_false_iff_not, beq_iff_eq, beq_eq_false_iff_ne, bne_iff_ne, bne_eq_false_iff_eq, ne_eq, Decidable.not_not] at h31
            have hc48 : c1 ≠ 48 := fun e => by subst e; exact h31 rfl
            have hyes : 1 ≤ (mag s).length ∧ (mag s).length ≤ 18 ∧ ¬ ((mag s)[0]? = some 48 ∧ 1 < s.length) := ⟨by rw [mag_len, hat]; omega, by rw [mag_len, hat]; omega, fun h => hc48 (by rw [hc1m] at h; exact Option.some.inj h.1)⟩
            have hml := mag_len s
            refine AO.skipT rfl rfl rfl rfl rfl ?_
            refine AO.skipT rfl rfl rfl rfl rfl ?_
            refine AO.skipT rfl rfl rfl rfl rfl ?_
            refine AO.yldG _ (Yld.pickF rfl rfl) rfl rfl rfl rfl rfl ?_
            refine AO.yld _ (Yld.pickF rfl rfl) rfl rfl rfl ?_
            refine AO.nil ?_
            refine AC.condF rfl ?_
            refine AC.skip ?_
            refine AC.seq ?_
            refine AC.region ?_
            refine AO.yld _ (Yld.assign rfl) rfl rfl rfl ?_
            refine AO.nil ?_
            refine AC.seq ?_
            refine AC.seq ?_
            refine AC.region ?_
            refine AO.yld _ (Yld.move rfl) rfl rfl rfl ?_
            refine AO.yld _ (Yld.assign rfl) rfl rfl rfl ?_
            refine AO.nil ?_
            refine AC.block ?_
            refine AC.loopC2 [(0, _), (4, _)] [] (fun (k nv : Nat) => [(6, .p (.v (.int .i64 ((atOf s + k : Nat) : Int)))), (5, .p (.v (.int .i64 (nv : Int))))]) (fun (k nv : Nat) => []) (fun (k nv : Nat) => k ≤ (mag s).length ∧ Lib.decFrom 0 ((mag s).take k) = some nv) (fun (k nv : Nat) => (mag s).length - k) 0 0 ⟨rfl, rfl, trivial⟩ trivial ⟨by rw [hat]; rfl, rfl, trivial⟩ trivial ?_ (fun k nv hJ => ?_)
            · exact ⟨Nat.zero_le _, rfl⟩
            · -- round
              refine AC.seq ?_
              refine AC.seq ?_
              refine AC.region ?_
              refine AO.yld _ (Yld.move rfl) rfl rfl rfl ?_
              refine AO.yld _ (Yld.move rfl) rfl rfl rfl ?_
              refine AO.yld _ (Yld.lenStr Tryd.underlying9 rfl) rfl rfl rfl ?_
              refine AO.yld _ (Yld.int rfl rfl rfl) rfl rfl rfl ?_
              refine AO.nil ?_
              refine AC.cond _ rfl (fun c41 => ?_) (fun c41 => ?_)
              · -- c41 True
                have hk : k < (mag s).length := by have h := c41; simp only [decide_eq_true_eq] at h; omega
                obtain ⟨c, hc9⟩ := get_some hk
                have hc : s[((atOf s + k : Nat) : Int).toNat]? = some c := by rw [Int.toNat_natCast, ← mag_get]; exact hc9
                have hnv := dec_lim (by omega) hJ.2
                refine AC.skip ?_
                refine AC.seq ?_
                refine AC.block ?_
                refine AC.seq ?_
                refine AC.seq ?_
                refine AC.region ?_
                refine AO.yld _ (Yld.move rfl) rfl rfl rfl ?_
                refine AO.yld _ (Yld.move rfl) rfl rfl rfl ?_
                refine AO.yld _ (Yld.indexStr Tryd.underlying9 rfl rfl (by omega) hc) rfl rfl rfl ?_
                refine AO.yld _ (Yld.call rfl rfl Tryd.call29 rfl rfl rfl (spec_l01Digit_c) rfl) rfl rfl rfl ?_
                refine AO.yld _ (Yld.not rfl) rfl rfl rfl ?_
                refine AO.nil ?_
                refine AC.cond _ rfl (fun c48 => ?_) (fun c48 => ?_)
                · -- c48 True
                  have hnd : ¬ (48 ≤ (c.toNat : Int) ∧ (c.toNat : Int) ≤ 57) := by have h := c48; simp only [Bool.not_eq_true', Bool.and_eq_false_iff, decide_eq_false_iff_not] at h; omega
                  have hno : readDec s = none := num_bad hc9 (digit_none hnd)
                  refine AC.seq ?_
                  refine AC.region ?_
                  refine AO.yld _ (Yld.assign rfl) rfl rfl rfl ?_
                  refine AO.yld _ (Yld.assign rfl) rfl rfl rfl ?_
                  refine AO.nil ?_
                  refine Pure.retT Tryd.results16 (RVs.cons (RV.tmp rfl) (RVs.cons (RV.tmp rfl) RVs.nil)) rfl ?_
                  first
                    | (rw [hno]; rfl)
                    | (rw [hfin, sign_one hat]; rfl)
                    | (rw [hfin, sign_zero hat]; rfl)
                    | (exfalso; simp at c58; done)
                    | (exfalso; revert c58; decide)
                · -- c48 False
                  have hnd : 48 ≤ (c.toNat : Int) ∧ (c.toNat : Int) ≤ 57 := by have h := c48; simp only [Bool.not_eq_false', Bool.and_eq_true, decide_eq_true_eq] at h; exact h
                  have hw9 := digit_wrap hnd
                  refine AC.skip ?_
                  refine AC.region ?_
                  refine AO.yld _ (Yld.move rfl) rfl rfl rfl ?_
                  refine AO.yld _ (Yld.mul rfl rfl (by omega) (by omega)) rfl rfl rfl ?_
                  refine AO.yld _ (Yld.move rfl) rfl rfl rfl ?_
                  refine AO.yld _ (Yld.move rfl) rfl rfl rfl ?_
                  refine AO.yld _ (Yld.indexStr Tryd.underlying9 rfl rfl (by omega) hc) rfl rfl rfl ?_
                  refine AO.yld _ (Yld.int rfl rfl rfl) rfl rfl rfl ?_
                  refine AO.yld _ (Yld.convInt Tryd.underlying5 Tryd.underlying2 rfl) rfl rfl rfl ?_
                  refine AO.yld _ (Yld.add rfl rfl (by omega) (by omega)) rfl rfl rfl ?_
                  refine AO.yld _ (Yld.assign rfl) rfl rfl rfl ?_
                  refine AO.nil ?_
                  refine AC.mark ?_
                  refine AC.region ?_
                  refine AO.yld _ (Yld.move rfl) rfl rfl rfl ?_
                  refine AO.yld _ (Yld.add rfl rfl (by omega) (by omega)) rfl rfl rfl ?_
                  refine AO.yld _ (Yld.assign rfl) rfl rfl rfl ?_
                  refine AO.nil ?_
                  refine AC.back ⟨k + 1, nv * 10 + (c.toNat - 48), ?_, ?_, ⟨?_, ?_, trivial⟩, trivial, ⟨rfl, rfl, trivial⟩, trivial⟩
                  · exact ⟨hk, dec_step hJ.2 hc9 (digit_some hnd)⟩
                  · omega
                  · rfl
                  · show some (AV.p (PV.v (Value.int IntKind.i64 _))) = _; congr 4; rw [hw9]; omega
              · -- c41 False
                obtain rfl : k = (mag s).length := by have h := c41; simp only [decide_eq_false_iff_not] at h; omega
                have hdf : Lib.decFrom 0 (mag s) = some nv := by have := hJ.2; rw [List.take_of_length_le (Nat.le_refl _)] at this; exact this
                have hfin := num_yes hyes hdf
                have hnv := dec_lim2 hyes.2.1 hdf
                refine AC.exit rfl ?_
                refine AC.seq ?_
                refine AC.seq ?_
                refine AC.region ?_
                refine AO.yld _ (Yld.move rfl) rfl rfl rfl ?_
                refine AO.yld _ (Yld.int rfl rfl rfl) rfl rfl rfl ?_
                refine AO.nil ?_
                refine AC.cond _ rfl (fun c58 => ?_) (fun c58 => ?_)
                · -- c58 True
                  refine AC.region ?_
                  refine AO.yld _ (Yld.move rfl) rfl rfl rfl ?_
                  refine AO.yld _ (Yld.negN rfl (by omega) (by omega)) rfl rfl rfl ?_
                  refine AO.yld _ (Yld.assign rfl) rfl rfl rfl ?_
                  refine AO.nil ?_
                  refine AC.seq ?_
                  refine AC.region ?_
                  refine AO.yld _ (Yld.move rfl) rfl rfl rfl ?_
                  refine AO.yld _ (Yld.assign rfl) rfl rfl rfl ?_
                  refine AO.yld _ (Yld.assign rfl) rfl rfl rfl ?_
                  refine AO.nil ?_
                  refine Pure.retT Tryd.results16 (RVs.cons (RV.tmp rfl) (RVs.cons (RV.tmp rfl) RVs.nil)) rfl ?_
                  first
                    | (rw [hno]; rfl)
                    | (rw [hfin, sign_one hat]; rfl)
                    | (rw [hfin, sign_zero hat]; rfl)
                    | (exfalso; simp at c58; done)
                    | (exfalso; revert c58; decide)
                · -- c58 False
                  refine AC.skip ?_
                  refine AC.seq ?_
                  refine AC.region ?_
                  refine AO.yld _ (Yld.move rfl) rfl rfl rfl ?_
                  refine AO.yld _ (Yld.assign rfl) rfl rfl rfl ?_
                  refine AO.yld _ (Yld.assign rfl) rfl rfl rfl ?_
                  refine AO.nil ?_
                  refine Pure.retT Tryd.results16 (RVs.cons (RV.tmp rfl) (RVs.cons (RV.tmp rfl) RVs.nil)) rfl ?_
                  first
                    | (rw [hno]; rfl)
                    | (rw [hfin, sign_one hat]; rfl)
                    | (rw [hfin, sign_zero hat]; rfl)
                    | (exfalso; simp at c58; done)
                    | (exfalso; revert c58; decide)
  · -- s10 False
    have h10 := s10; simp only [decide_eq_true_eq, decide_eq_false_iff_not, beq_iff_eq, beq_eq_false_iff_ne, bne_iff_ne, bne_eq_false_iff_eq, ne_eq, Decidable.not_not] at h10
    have hat : atOf s = 0 := at_zero (by rw [List.getElem?_eq_none (by omega)]; simp)
    refine AO.skipT rfl rfl rfl rfl rfl ?_
    refine AO.skipT rfl rfl rfl rfl rfl ?_
    refine AO.skipT rfl rfl rfl rfl rfl ?_
    refine AO.yld _ (Yld.pickF rfl rfl) rfl rfl rfl ?_
    refine AO.nil ?_
    refine AC.condF rfl ?_
    refine AC.skip ?_
    refine AC.seq ?_
    refine AC.seq ?_
    refine AC.region ?_
    refine AO.yld _ (Yld.move rfl) rfl rfl rfl ?_
    refine AO.yld _ (Yld.lenStr Tryd.underlying9 rfl) rfl rfl rfl ?_
    refine AO.yld _ (Yld.move rfl) rfl rfl rfl ?_
    refine AO.yld _ (Yld.int rfl rfl rfl) rfl rfl rfl ?_
    refine AO.yld _ (Yld.move rfl) rfl rfl rfl ?_
    refine AO.splitAt 19 _ rfl (fun s19 => ?_) (fun s19 => ?_)
    · -- s19 True
      have h19 := s19; simp only [decide_eq_true_eq, decide_eq_false_iff_not, beq_iff_eq, beq_eq_false_iff_ne, bne_iff_ne, bne_eq_false_iff_eq, ne_eq, Decidable.not_not] at h19
      have hno : readDec s = none := num_no (by rintro ⟨q1, q2, q3⟩; rw [mag_len, hat] at q1 q2; simp only [mag_get, hat] at q3; omega)
      refine AO.skipF rfl rfl rfl rfl rfl ?_
      refine AO.skipF rfl rfl rfl rfl rfl ?_
      refine AO.skipF rfl rfl rfl rfl rfl ?_
      refine AO.skipF rfl rfl rfl rfl rfl ?_
      refine AO.skipF rfl rfl rfl rfl rfl ?_
      refine AO.yld _ (Yld.pickT rfl rfl) rfl rfl rfl ?_
      refine AO.yld _ (Yld.move rfl) rfl rfl rfl ?_
      refine AO.skipF rfl rfl rfl rfl rfl ?_
      refine AO.skipF rfl rfl rfl rfl rfl ?_
      refine AO.skipF rfl rfl rfl rfl rfl ?_
      refine AO.skipF rfl rfl rfl rfl rfl ?_
      refine AO.skipF rfl rfl rfl rfl rfl ?_
      refine AO.skipU rfl rfl rfl rfl rfl ?_
      refine AO.skipU rfl rfl rfl rfl rfl ?_
      refine AO.skipU rfl rfl rfl rfl rfl ?_
      refine AO.skipF rfl rfl rfl rfl rfl ?_
      refine AO.yld _ (Yld.pickT rfl rfl) rfl rfl rfl ?_
      refine AO.nil ?_
      refine AC.condT rfl ?_
      refine AC.seq ?_
      refine AC.region ?_
      refine AO.yld _ (Yld.assign rfl) rfl rfl rfl ?_
      refine AO.yld _ (Yld.assign rfl) rfl rfl rfl ?_
      refine AO.nil ?_
      refine Pure.retT Tryd.results16 (RVs.cons (RV.tmp rfl) (RVs.cons (RV.tmp rfl) RVs.nil)) rfl ?_
      first
        | (rw [hno]; rfl)
        | (rw [hfin, sign_one hat]; rfl)
        | (rw [hfin, sign_zero hat]; rfl)
        | (exfalso; simp at c58; done)
        | (exfalso; revert c58; decide)
    · -- s19 False
      have h19 := s19; simp only [decide_eq_true_eq, decide_eq_false_iff_not, beq_iff_eq, beq_eq_false_iff_ne, bne_iff_ne, bne_eq_false_iff_eq, ne_eq, Decidable.not_not] at h19
      refine AO.yldG _ (Yld.move rfl) rfl rfl rfl rfl rfl ?_
      refine AO.yldG _ (Yld.lenStr Tryd.underlying9 rfl) rfl rfl rfl rfl rfl ?_
      refine AO.yldG _ (Yld.move rfl) rfl rfl rfl rfl rfl ?_
      refine AO.yldG _ (Yld.sub rfl rfl (by omega) (by omega)) rfl rfl rfl rfl rfl ?_
      refine AO.yldG _ (Yld.int rfl rfl rfl) rfl rfl rfl rfl rfl ?_
      refine AO.yld _ (Yld.pickF rfl rfl) rfl rfl rfl ?_
      refine AO.yld _ (Yld.move rfl) rfl rfl rfl ?_
      refine AO.splitAt 26 _ rfl (fun s26 => ?_) (fun s26 => ?_)
      · -- s26 True
        have h26 := s26; simp only [decide_eq_true_eq, decide_eq_false_iff_not, beq_iff_eq, beq_eq_false_iff_ne, bne_iff_ne, bne_eq_false_iff_eq, ne_eq, Decidable.not_not] at h26
        have hno : readDec s = none := num_no (by rintro ⟨q1, q2, q3⟩; rw [mag_len, hat] at q1 q2; simp only [mag_get, hat] at q3; omega)
        refine AO.skipF rfl rfl rfl rfl rfl ?_
        refine AO.skipF rfl rfl rfl rfl rfl ?_
        refine AO.skipF rfl rfl rfl rfl rfl ?_
        refine AO.skipF rfl rfl rfl rfl rfl ?_
        refine AO.skipF rfl rfl rfl rfl rfl ?_
        refine AO.skipU rfl rfl rfl rfl rfl ?_
        refine AO.skipU rfl rfl rfl rfl rfl ?_
        refine AO.skipU rfl rfl rfl rfl rfl ?_
        refine AO.skipF rfl rfl rfl rfl rfl ?_
        refine AO.yld _ (Yld.pickT rfl rfl) rfl rfl rfl ?_
        refine AO.nil ?_
        refine AC.condT rfl ?_
        refine AC.seq ?_
        refine AC.region ?_
        refine AO.yld _ (Yld.assign rfl) rfl rfl rfl ?_
        refine AO.yld _ (Yld.assign rfl) rfl rfl rfl ?_
        refine AO.nil ?_
        refine Pure.retT Tryd.results16 (RVs.cons (RV.tmp rfl) (RVs.cons (RV.tmp rfl) RVs.nil)) rfl ?_
        first
          | (rw [hno]; rfl)
          | (rw [hfin, sign_one hat]; rfl)
          | (rw [hfin, sign_zero hat]; rfl)
          | (exfalso; simp at c58; done)
          | (exfalso; revert c58; decide)
      · -- s26 False
        have h26 := s26; simp only [decide_eq_true_eq, decide_eq_false_iff_not, beq_iff_eq, beq_eq_false_iff_ne, bne_iff_ne, bne_eq_false_iff_eq, ne_eq, Decidable.not_not] at h26
        obtain ⟨c1, hc1⟩ := get_some (xs := s) (k := atOf s) (by rw [hat]; omega)
        rw [hat] at hc1
        have hc1m : (mag s)[0]? = some c1 := by rw [mag_get, hat]; exact hc1
        refine AO.yldG _ (Yld.move rfl) rfl rfl rfl rfl rfl ?_
        refine AO.yldG _ (Yld.move rfl) rfl rfl rfl rfl rfl ?_
        refine AO.yldG _ (Yld.indexStr Tryd.underlying9 rfl rfl (by omega) hc1) rfl rfl rfl rfl rfl ?_
        refine AO.yldG _ (Yld.int rfl rfl rfl) rfl rfl rfl rfl rfl ?_
        refine AO.yldG _ (Yld.move rfl) rfl rfl rfl rfl rfl ?_
        refine AO.splitAt 31 _ rfl (fun s31 => ?_) (fun s31 => ?_)
        · -- s31 True
          have h31 := s31; simp only [decide_eq_true_eq, decide_eq_false_iff_not, beq_iff_eq, beq_eq_false_iff_ne, bne_iff_ne, bne_eq_false_iff_eq, ne_eq, Decidable.not_not] at h31
          have hc48 : c1 = 48 := UInt8.toNat_inj.1 (by have : (48 : UInt8).toNat = 48 := rfl; omega)
          refine AO.yldG _ (Yld.move rfl) rfl rfl rfl rfl rfl ?_
          refine AO.yldG _ (Yld.lenStr Tryd.underlying9 rfl) rfl rfl rfl rfl rfl ?_
          refine AO.yldG _ (Yld.int rfl rfl rfl) rfl rfl rfl rfl rfl ?_
          refine AO.yldG _ (Yld.pickT rfl rfl) rfl rfl rfl rfl rfl ?_
          refine AO.yld _ (Yld.pickF rfl rfl) rfl rfl rfl ?_
          refine AO.nil ?_
          refine AC.cond _ rfl (fun c36 => ?_) (fun c36 => ?_)
          · -- c36 True
            have h36 := c36; simp only [decide_eq_true_eq, decide_eq_false_iff_not, beq_iff_eq, beq_eq_false_iff_ne, bne_iff_ne, bne_eq_false_iff_eq, ne_eq, Decidable.not_not] at h36
            have hno : readDec s = none := num_no (fun q => q.2.2 ⟨by rw [hc1m, hc48], by omega⟩)
            refine AC.seq ?_
            refine AC.region ?_
            refine AO.yld _ (Yld.assign rfl) rfl rfl rfl ?_
            refine AO.yld _ (Yld.assign rfl) rfl rfl rfl ?_
            refine AO.nil ?_
            refine Pure.retT Tryd.results16 (RVs.cons (RV.tmp rfl) (RVs.cons (RV.tmp rfl) RVs.nil)) rfl ?_
            first
              | (rw [hno]; rfl)
              | (rw [hfin, sign_one hat]; rfl)
              | (rw [hfin, sign_zero hat]; rfl)
              | (exfalso; simp at c58; done)
              | (exfalso; revert c58; decide)
          · -- c36 False
            have h36 := c36; simp only [decide_eq_true_eq, decide_eq_false_iff_not, beq_iff_eq, beq_eq_false_iff_ne, bne_iff_ne, bne_eq_false_iff_eq, ne_eq, Decidable.not_not] at h36
            have hyes : 1 ≤ (mag s).length ∧ (mag s).length ≤ 18 ∧ ¬ ((mag s)[0]? = some 48 ∧ 1 < s.length) := ⟨by rw [mag_len, hat]; omega, by rw [mag_len, hat]; omega, fun h => by omega⟩
            have hml := mag_len s
            refine AC.skip ?_
            refine AC.seq ?_
            refine AC.region ?_
            refine AO.yld _ (Yld.assign rfl) rfl rfl rfl ?_
            refine AO.nil ?_
            refine AC.seq ?_
            refine AC.seq ?_
            refine AC.region ?_
            refine AO.yld _ (Yld.move rfl) rfl rfl rfl ?_
            refine AO.yld _ (Yld.assign rfl) rfl rfl rfl ?_
            refine AO.nil ?_
            refine AC.block ?_
            refine AC.loopC2 [(0, _), (4, _)] [] (fun (k nv : Nat) => [(6, .p (.v (.int .i64 ((atOf s + k : Nat) : Int)))), (5, .p (.v (.int .i64 (nv : Int))))]) (fun (k nv : Nat) => []) (fun (k nv : Nat) => k ≤ (mag s).length ∧ Lib.decFrom 0 ((mag s).take k) = some nv) (fun (k nv : Nat) => (mag s).length - k) 0 0 ⟨rfl, rfl, trivial⟩ trivial ⟨by rw [hat]; rfl, rfl, trivial⟩ trivial ?_ (fun k nv hJ => ?_)
            · exact ⟨Nat.zero_le _, rfl⟩
            · -- round
              refine AC.seq ?_
              refine AC.seq ?_
              refine AC.region ?_
              refine AO.yld _ (Yld.move rfl) rfl rfl rfl ?_
              refine AO.yld _ (Yld.move rfl) rfl rfl rfl ?_
              refine AO.yld _ (Yld.lenStr Tryd.underlying9 rfl) rfl rfl rfl ?_
              refine AO.yld _ (Yld.int rfl rfl rfl) rfl rfl rfl ?_
              refine AO.nil ?_
              refine AC.cond _ rfl (fun c41 => ?_) (fun c41 => ?_)
              · -- c41 True
                have hk : k < (mag s).length := by have h := c41; simp only [decide_eq_true_eq] at h; omega
                obtain ⟨c, hc9⟩ := get_some hk
                have hc : s[((atOf s + k : Nat) : Int).toNat]? = some c := by rw [Int.toNat_natCast, ← mag_get]; exact hc9
                have hnv := dec_lim (by omega) hJ.2
                refine AC.skip ?_
                refine AC.seq ?_
                refine AC.block ?_
                refine AC.seq ?_
                refine AC.seq ?_
                refine AC.region ?_
                refine AO.yld _ (Yld.move rfl) rfl rfl rfl ?_
                refine AO.yld _ (Yld.move rfl) rfl rfl rfl ?_
                refine AO.yld _ (Yld.indexStr Tryd.underlying9 rfl rfl (by omega) hc) rfl rfl rfl ?_
                refine AO.yld _ (Yld.call rfl rfl Tryd.call29 rfl rfl rfl (spec_l01Digit_c) rfl) rfl rfl rfl ?_
                refine AO.yld _ (Yld.not rfl) rfl rfl rfl ?_
                refine AO.nil ?_
                refine AC.cond _ rfl (fun c48 => ?_) (fun c48 => ?_)
                · -- c48 True
                  have hnd : ¬ (48 ≤ (c.toNat : Int) ∧ (c.toNat : Int) ≤ 57) := by have h := c48; simp only [Bool.not_eq_true', Bool.and_eq_false_iff, decide_eq_false_iff_not] at h; omega
                  have hno : readDec s = none := num_bad hc9 (digit_none hnd)
                  refine AC.seq ?_
                  refine AC.region ?_
                  refine AO.yld _ (Yld.assign rfl) rfl rfl rfl ?_
                  refine AO.yld _ (Yld.assign rfl) rfl rfl rfl ?_
                  refine AO.nil ?_
                  refine Pure.retT Tryd.results16 (RVs.cons (RV.tmp rfl) (RVs.cons (RV.tmp rfl) RVs.nil)) rfl ?_
                  first
                    | (rw [hno]; rfl)
                    | (rw [hfin, sign_one hat]; rfl)
                    | (rw [hfin, sign_zero hat]; rfl)
                    | (exfalso; simp at c58; done)
                    | (exfalso; revert c58; decide)
                · -- c48 False
                  have hnd : 48 ≤ (c.toNat : Int) ∧ (c.toNat : Int) ≤ 57 := by have h := c48; simp only [Bool.not_eq_false', Bool.and_eq_true, decide_eq_true_eq] at h; exact h
                  have hw9 := digit_wrap hnd
                  refine AC.skip ?_
                  refine AC.region ?_
                  refine AO.yld _ (Yld.move rfl) rfl rfl rfl ?_
                  refine AO.yld _ (Yld.mul rfl rfl (by omega) (by omega)) rfl rfl rfl ?_
                  refine AO.yld _ (Yld.move rfl) rfl rfl rfl ?_
                  refine AO.yld _ (Yld.move rfl) rfl rfl rfl ?_
                  refine AO.yld _ (Yld.indexStr Tryd.underlying9 rfl rfl (by omega) hc) rfl rfl rfl ?_
                  refine AO.yld _ (Yld.int rfl rfl rfl) rfl rfl rfl ?_
                  refine AO.yld _ (Yld.convInt Tryd.underlying5 Tryd.underlying2 rfl) rfl rfl rfl ?_
                  refine AO.yld _ (Yld.add rfl rfl (by omega) (by omega)) rfl rfl rfl ?_
                  refine AO.yld _ (Yld.assign rfl) rfl rfl rfl ?_
                  refine AO.nil ?_
                  refine AC.mark ?_
                  refine AC.region ?_
                  refine AO.yld _ (Yld.move rfl) rfl rfl rfl ?_
                  refine AO.yld _ (Yld.add rfl rfl (by omega) (by omega)) rfl rfl rfl ?_
                  refine AO.yld _ (Yld.assign rfl) rfl rfl rfl ?_
                  refine AO.nil ?_
                  refine AC.back ⟨k + 1, nv * 10 + (c.toNat - 48), ?_, ?_, ⟨?_, ?_, trivial⟩, trivial, ⟨rfl, rfl, trivial⟩, trivial⟩
                  · exact ⟨hk, dec_step hJ.2 hc9 (digit_some hnd)⟩
                  · omega
                  · rfl
                  · show some (AV.p (PV.v (Value.int IntKind.i64 _))) = _; congr 4; rw [hw9]; omega
              · -- c41 False
                obtain rfl : k = (mag s).length := by have h := c41; simp only [decide_eq_false_iff_not] at h; omega
                have hdf : Lib.decFrom 0 (mag s) = some nv := by have := hJ.2; rw [List.take_of_length_le (Nat.le_refl _)] at this; exact this
                have hfin := num_yes hyes hdf
                have hnv := dec_lim2 hyes.2.1 hdf
                refine AC.exit rfl ?_
                refine AC.seq ?_
                refine AC.seq ?_
                refine AC.region ?_
                refine AO.yld _ (Yld.move rfl) rfl rfl rfl ?_
                refine AO.yld _ (Yld.int rfl rfl rfl) rfl rfl rfl ?_
                refine AO.nil ?_
                refine AC.cond _ rfl (fun c58 => ?_) (fun c58 => ?_)
                · -- c58 True
                  refine AC.region ?_
                  refine AO.yld _ (Yld.move rfl) rfl rfl rfl ?_
                  refine AO.yld _ (Yld.negN rfl (by omega) (by omega)) rfl rfl rfl ?_
                  refine AO.yld _ (Yld.assign rfl) rfl rfl rfl ?_
                  refine AO.nil ?_
                  refine AC.seq ?_
                  refine AC.region ?_
                  refine AO.yld _ (Yld.move rfl) rfl rfl rfl ?_
                  refine AO.yld _ (Yld.assign rfl) rfl rfl rfl ?_
                  refine AO.yld _ (Yld.assign rfl) rfl rfl rfl ?_
                  refine AO.nil ?_
                  refine Pure.retT Tryd.results16 (RVs.cons (RV.tmp rfl) (RVs.cons (RV.tmp rfl) RVs.nil)) rfl ?_
                  first
                    | (rw [hno]; rfl)
                    | (rw [hfin, sign_one hat]; rfl)
                    | (rw [hfin, sign_zero hat]; rfl)
                    | (exfalso; simp at c58; done)
                    | (exfalso; revert c58; decide)
                · -- c58 False
                  refine AC.skip ?_
                  refine AC.seq ?_
                  refine AC.region ?_
                  refine AO.yld _ (Yld.move rfl) rfl rfl rfl ?_
                  refine AO.yld _ (Yld.assign rfl) rfl rfl rfl ?_
                  refine AO.yld _ (Yld.assign rfl) rfl rfl rfl ?_
                  refine AO.nil ?_
                  refine Pure.retT Tryd.results16 (RVs.cons (RV.tmp rfl) (RVs.cons (RV.tmp rfl) RVs.nil)) rfl ?_
                  first
                    | (rw [hno]; rfl)
                    | (rw [hfin, sign_one hat]; rfl)
                    | (rw [hfin, sign_zero hat]; rfl)
                    | (exfalso; simp at c58; done)
                    | (exfalso; revert c58; decide)
        · -- s31 False
          have h31 := s31; simp only [decide_eq_true_eq, decide_eq_false_iff_not, beq_iff_eq, beq_eq_false_iff_ne, bne_iff_ne, bne_eq_false_iff_eq, ne_eq, Decidable.not_not] at h31
          have hc48 : c1 ≠ 48 := fun e => by subst e; exact h31 rfl
          have hyes : 1 ≤ (mag s).length ∧ (mag s).length ≤ 18 ∧ ¬ ((mag s)[0]? = some 48 ∧ 1 < s.length) := ⟨by rw [mag_len, hat]; omega, by rw [mag_len, hat]; omega, fun h => hc48 (by rw [hc1m] at h; exact Option.some.inj h.1)⟩
          have hml := mag_len s
          refine AO.skipT rfl rfl rfl rfl rfl ?_
          refine AO.skipT rfl rfl rfl rfl rfl ?_
          refine AO.skipT rfl rfl rfl rfl rfl ?_
          refine AO.yldG _ (Yld.pickF rfl rfl) rfl rfl rfl rfl rfl ?_
          refine AO.yld _ (Yld.pickF rfl rfl) rfl rfl rfl ?_
          refine AO.nil ?_
          refine AC.condF rfl ?_
          refine AC.skip ?_
          refine AC.seq ?_
          refine AC.region ?_
          refine AO.yld _ (Yld.assign rfl) rfl rfl rfl ?_
          refine AO.nil ?_
          refine AC.seq ?_
          refine AC.seq ?_
          refine AC.region ?_
          refine AO.yld _ (Yld.move rfl) rfl rfl rfl ?_
          refine AO.yld _ (Yld.assign rfl) rfl rfl rfl ?_
          refine AO.nil ?_
          refine AC.block ?_
          refine AC.loopC2 [(0, _), (4, _)] [] (fun (k nv : Nat) => [(6, .p (.v (.int .i64 ((atOf s + k : Nat) : Int)))), (5, .p (.v (.int .i64 (nv : Int))))]) (fun (k nv : Nat) => []) (fun (k nv : Nat) => k ≤ (mag s).length ∧ Lib.decFrom 0 ((mag s).take k) = some nv) (fun (k nv : Nat) => (mag s).length - k) 0 0 ⟨rfl, rfl, trivial⟩ trivial ⟨by rw [hat]; rfl, rfl, trivial⟩ trivial ?_ (fun k nv hJ => ?_)
          · exact ⟨Nat.zero_le _, rfl⟩
          · -- round
            refine AC.seq ?_
            refine AC.seq ?_
            refine AC.region ?_
            refine AO.yld _ (Yld.move rfl) rfl rfl rfl ?_
            refine AO.yld _ (Yld.move rfl) rfl rfl rfl ?_
            refine AO.yld _ (Yld.lenStr Tryd.underlying9 rfl) rfl rfl rfl ?_
            refine AO.yld _ (Yld.int rfl rfl rfl) rfl rfl rfl ?_
            refine AO.nil ?_
            refine AC.cond _ rfl (fun c41 => ?_) (fun c41 => ?_)
            · -- c41 True
              have hk : k < (mag s).length := by have h := c41; simp only [decide_eq_true_eq] at h; omega
              obtain ⟨c, hc9⟩ := get_some hk
              have hc : s[((atOf s + k : Nat) : Int).toNat]? = some c := by rw [Int.toNat_natCast, ← mag_get]; exact hc9
              have hnv := dec_lim (by omega) hJ.2
              refine AC.skip ?_
              refine AC.seq ?_
              refine AC.block ?_
              refine AC.seq ?_
              refine AC.seq ?_
              refine AC.region ?_
              refine AO.yld _ (Yld.move rfl) rfl rfl rfl ?_
              refine AO.yld _ (Yld.move rfl) rfl rfl rfl ?_
              refine AO.yld _ (Yld.indexStr Tryd.underlying9 rfl rfl (by omega) hc) rfl rfl rfl ?_
              refine AO.yld _ (Yld.call rfl rfl Tryd.call29 rfl rfl rfl (spec_l01Digit_c) rfl) rfl rfl rfl ?_
              refine AO.yld _ (Yld.not rfl) rfl rfl rfl ?_
              refine AO.nil ?_
              refine AC.cond _ rfl (fun c48 => ?_) (fun c48 => ?_)
              · -- c48 True
                have hnd : ¬ (48 ≤ (c.toNat : Int) ∧ (c.toNat : Int) ≤ 57) := by have h := c48; simp only [Bool.not_eq_true', Bool.and_eq_false_iff, decide_eq_false_iff_not] at h; omega
                have hno : readDec s = none := num_bad hc9 (digit_none hnd)
                refine AC.seq ?_
                refine AC.region ?_
                refine AO.yld _ (Yld.assign rfl) rfl rfl rfl ?_
                refine AO.yld _ (Yld.assign rfl) rfl rfl rfl ?_
                refine AO.nil ?_
                refine Pure.retT Tryd.results16 (RVs.cons (RV.tmp rfl) (RVs.cons (RV.tmp rfl) RVs.nil)) rfl ?_
                first
                  | (rw [hno]; rfl)
                  | (rw [hfin, sign_one hat]; rfl)
                  | (rw [hfin, sign_zero hat]; rfl)
                  | (exfalso; simp at c58; done)
                  | (exfalso; revert c58; decide)
              · -- c48 False
                have hnd : 48 ≤ (c.toNat : Int) ∧ (c.toNat : Int) ≤ 57 := by have h := c48; simp only [Bool.not_eq_false', Bool.and_eq_true, decide_eq_true_eq] at h; exact h
                have hw9 := digit_wrap hnd
                refine AC.skip ?_
                refine AC.region ?_
                refine AO.yld _ (Yld.move rfl) rfl rfl rfl ?_
                refine AO.yld _ (Yld.mul rfl rfl (by omega) (by omega)) rfl rfl rfl ?_
                refine AO.yld _ (Yld.move rfl) rfl rfl rfl ?_
                refine AO.yld _ (Yld.move rfl) rfl rfl rfl ?_
                refine AO.yld _ (Yld.indexStr Tryd.underlying9 rfl rfl (by omega) hc) rfl rfl rfl ?_
                refine AO.yld _ (Yld.int rfl rfl rfl) rfl rfl rfl ?_
                refine AO.yld _ (Yld.convInt Tryd.underlying5 Tryd.underlying2 rfl) rfl rfl rfl ?_
                refine AO.yld _ (Yld.add rfl rfl (by omega) (by omega)) rfl rfl rfl ?_
                refine AO.yld _ (Yld.assign rfl) rfl rfl rfl ?_
                refine AO.nil ?_
                refine AC.mark ?_
                refine AC.region ?_
                refine AO.yld _ (Yld.move rfl) rfl rfl rfl ?_
                refine AO.yld _ (Yld.add rfl rfl (by omega) (by omega)) rfl rfl rfl ?_
                refine AO.yld _ (Yld.assign rfl) rfl rfl rfl ?_
                refine AO.nil ?_
                refine AC.back ⟨k + 1, nv * 10 + (c.toNat - 48), ?_, ?_, ⟨?_, ?_, trivial⟩, trivial, ⟨rfl, rfl, trivial⟩, trivial⟩
                · exact ⟨hk, dec_step hJ.2 hc9 (digit_some hnd)⟩
                · omega
                · rfl
                · show some (AV.p (PV.v (Value.int IntKind.i64 _))) = _; congr 4; rw [hw9]; omega
            · -- c41 False
              obtain rfl : k = (mag s).length := by have h := c41; simp only [decide_eq_false_iff_not] at h; omega
              have hdf : Lib.decFrom 0 (mag s) = some nv := by have := hJ.2; rw [List.take_of_length_le (Nat.le_refl _)] at this; exact this
              have hfin := num_yes hyes hdf
              have hnv := dec_lim2 hyes.2.1 hdf
              refine AC.exit rfl ?_
              refine AC.seq ?_
              refine AC.seq ?_
              refine AC.region ?_
              refine AO.yld _ (Yld.move rfl) rfl rfl rfl ?_
              refine AO.yld _ (Yld.int rfl rfl rfl) rfl rfl rfl ?_
              refine AO.nil ?_
              refine AC.cond _ rfl (fun c58 => ?_) (fun c58 => ?_)
              · -- c58 True
                refine AC.region ?_
                refine AO.yld _ (Yld.move rfl) rfl rfl rfl ?_
                refine AO.yld _ (Yld.negN rfl (by omega) (by omega)) rfl rfl rfl ?_
                refine AO.yld _ (Yld.assign rfl) rfl rfl rfl ?_
                refine AO.nil ?_
                refine AC.seq ?_
                refine AC.region ?_
                refine AO.yld _ (Yld.move rfl) rfl rfl rfl ?_
                refine AO.yld _ (Yld.assign rfl) rfl rfl rfl ?_
                refine AO.yld _ (Yld.assign rfl) rfl rfl rfl ?_
                refine AO.nil ?_
                refine Pure.retT Tryd.results16 (RVs.cons (RV.tmp rfl) (RVs.cons (RV.tmp rfl) RVs.nil)) rfl ?_
                first
                  | (rw [hno]; rfl)
                  | (rw [hfin, sign_one hat]; rfl)
                  | (rw [hfin, sign_zero hat]; rfl)
                  | (exfalso; simp at c58; done)
                  | (exfalso; revert c58; decide)
              · -- c58 False
                refine AC.skip ?_
                refine AC.seq ?_
                refine AC.region ?_
                refine AO.yld _ (Yld.move rfl) rfl rfl rfl ?_
                refine AO.yld _ (Yld.assign rfl) rfl rfl rfl ?_
                refine AO.yld _ (Yld.assign rfl) rfl rfl rfl ?_
                refine AO.nil ?_
                refine Pure.retT Tryd.results16 (RVs.cons (RV.tmp rfl) (RVs.cons (RV.tmp rfl) RVs.nil)) rfl ?_
                first
                  | (rw [hno]; rfl)
                  | (rw [hfin, sign_one hat]; rfl)
                  | (rw [hfin, sign_zero hat]; rfl)
                  | (exfalso; simp at c58; done)
                  | (exfalso; revert c58; decide)

theorem impl_ReadDecimal_c {s : List UInt8} :
    FnE (α := Unit) Tryd.prog 19 [.p (.v (str s))] [(0, powRE Tryd.prog)] [0] (fun _ => True) (fun _ => .tup [.p (.v (.int .i64 ((readDec s).getD 0))), .p (.v (.bool (readDec s).isSome))]) (fun _ => [(0, powRE Tryd.prog)]) := by
  refine FnE.intro Tryd.func19 rfl Tryd.ntmps19 rfl rfl (fun w0 F0 η φ w => ?_)
  refine AC.seq ?_
  refine AC.region ?_
  refine AO.yld _ (Yld.assign rfl) rfl rfl rfl ?_
  refine AO.yld _ (Yld.assign rfl) rfl rfl rfl ?_
  refine AO.nil ?_
  refine AC.seq ?_
  refine AC.region ?_
  refine AO.yld _ (Yld.move rfl) rfl rfl rfl ?_
  refine AO.yld _ (Yld.call rfl rfl Tryd.call33 rfl rfl rfl (trim_pure Tryd.strings_TrimPrefix) rfl) rfl rfl rfl ?_
  refine AO.yld _ (Yld.assign rfl) rfl rfl rfl ?_
  refine AO.nil ?_
  refine AC.seq ?_
  refine AC.seq ?_
  refine AC.region ?_
  refine AO.yld _ (Yld.move rfl) rfl rfl rfl ?_
  refine AO.yld _ (Yld.lenStr Tryd.underlying9 rfl) rfl rfl rfl ?_
  refine AO.yld _ (Yld.int rfl rfl rfl) rfl rfl rfl ?_
  refine AO.yld _ (Yld.move rfl) rfl rfl rfl ?_
  refine AO.splitAt 12 _ rfl (fun s12 => ?_) (fun s12 => ?_)
  · -- s12 True
    have h12 := s12; simp only [decide_eq_true_eq, decide_eq_false_iff_not, beq_iff_eq, beq_eq_false_iff_ne, bne_iff_ne, bne_eq_false_iff_eq, ne_eq, Decidable.not_not] at h12
    have hno : readDec s = none := by unfold readDec; rw [if_neg (by omega)]
    refine AO.skipF rfl rfl rfl rfl rfl ?_
    refine AO.skipF rfl rfl rfl rfl rfl ?_
    refine AO.skipF rfl rfl rfl rfl rfl ?_
    refine AO.yld _ (Yld.pickT rfl rfl) rfl rfl rfl ?_
    refine AO.nil ?_
    refine AC.condT rfl ?_
    refine AC.seq ?_
    refine AC.region ?_
    refine AO.yld _ (Yld.assign rfl) rfl rfl rfl ?_
    refine AO.yld _ (Yld.assign rfl) rfl rfl rfl ?_
    refine AO.nil ?_
    refine FnE.ret () [0] [0] Tryd.results19 (RVs.cons (RV.tmp rfl) (RVs.cons (RV.tmp rfl) RVs.nil)) rfl rfl rfl ?_ ?_ ⟨⟨_, rfl, ?_⟩, trivial⟩
    · -- holds
      trivial
    · -- value
      first | (rw [hno]; rfl) | (rw [hfin]; rfl)
    · -- thing 0
      first | rfl | exact vecE (by first | rfl | (simp_all; done) | grind) | (simp_all; done)
  · -- s12 False
    have h12 := s12; simp only [decide_eq_true_eq, decide_eq_false_iff_not, beq_iff_eq, beq_eq_false_iff_ne, bne_iff_ne, bne_eq_false_iff_eq, ne_eq, Decidable.not_not] at h12
    refine AO.yldG _ (Yld.move rfl) rfl rfl rfl rfl rfl ?_
    refine AO.yldG _ (Yld.lenStr Tryd.underlying9 rfl) rfl rfl rfl rfl rfl ?_
    refine AO.yldG _ (Yld.int rfl rfl rfl) rfl rfl rfl rfl rfl ?_
    refine AO.yld _ (Yld.pickF rfl rfl) rfl rfl rfl ?_
    refine AO.nil ?_
    refine AC.cond _ rfl (fun c16 => ?_) (fun c16 => ?_)
    · -- c16 True
      have h16 := c16; simp only [decide_eq_true_eq, decide_eq_false_iff_not, beq_iff_eq, beq_eq_false_iff_ne, bne_iff_ne, bne_eq_false_iff_eq, ne_eq, Decidable.not_not] at h16
      have hno : readDec s = none := by unfold readDec; rw [if_neg (by omega)]
      refine AC.seq ?_
      refine AC.region ?_
      refine AO.yld _ (Yld.assign rfl) rfl rfl rfl ?_
      refine AO.yld _ (Yld.assign rfl) rfl rfl rfl ?_
      refine AO.nil ?_
      refine FnE.ret () [0] [0] Tryd.results19 (RVs.cons (RV.tmp rfl) (RVs.cons (RV.tmp rfl) RVs.nil)) rfl rfl rfl ?_ ?_ ⟨⟨_, rfl, ?_⟩, trivial⟩
      · -- holds
        trivial
      · -- value
        first | (rw [hno]; rfl) | (rw [hfin]; rfl)
      · -- thing 0
        first | rfl | exact vecE (by first | rfl | (simp_all; done) | grind) | (simp_all; done)
    · -- c16 False
      have h16 := c16; simp only [decide_eq_true_eq, decide_eq_false_iff_not, beq_iff_eq, beq_eq_false_iff_ne, bne_iff_ne, bne_eq_false_iff_eq, ne_eq, Decidable.not_not] at h16
      have hl : 1 ≤ (mag s).length ∧ (mag s).length ≤ 18 := by omega
      refine AC.skip ?_
      refine AC.seq ?_
      refine AC.region ?_
      refine AO.yld _ (Yld.move rfl) rfl rfl rfl ?_
      refine AO.callW (wantedN rfl) [0] [0] [0] rfl rfl Tryd.call34 rfl (par_fnE parLib hl) (.own rfl) rfl (fun ⟨_, _⟩ => rfl) ⟨rfl, trivial⟩ rfl (fun ⟨_, _⟩ => rfl) (fun ⟨_, _⟩ => rfl) (fun ⟨v19, u19⟩ hv19 => ?_)
      dsimp only at hv19
      refine AO.yld _ (Yld.move rfl) rfl rfl rfl ?_
      refine AO.yld _ (Yld.extract rfl rfl rfl) rfl rfl rfl ?_
      refine AO.yld _ (Yld.extract rfl rfl rfl) rfl rfl rfl ?_
      refine AO.yld _ (Yld.assign rfl) rfl rfl rfl ?_
      refine AO.yld _ (Yld.assign rfl) rfl rfl rfl ?_
      refine AO.nil ?_
      refine AC.seq ?_
      refine AC.seq ?_
      refine AC.region ?_
      refine AO.yld _ (Yld.move rfl) rfl rfl rfl ?_
      refine AO.yld _ (Yld.neNil Tryd.underlying59 rfl hv19.iface) rfl rfl rfl ?_
      refine AO.yld _ (Yld.move rfl) rfl rfl rfl ?_
      refine AO.splitAt 24 _ rfl (fun s24 => ?_) (fun s24 => ?_)
      · -- s24 True
        have hno := hv19.ne s24
        refine AO.skipF rfl rfl rfl rfl rfl ?_
        refine AO.skipF rfl rfl rfl rfl rfl ?_
        refine AO.skipF rfl rfl rfl rfl rfl ?_
        refine AO.skipF rfl rfl rfl rfl rfl ?_
        refine AO.yld _ (Yld.pickT rfl rfl) rfl rfl rfl ?_
        refine AO.nil ?_
        refine AC.condT rfl ?_
        refine AC.seq ?_
        refine AC.region ?_
        refine AO.yld _ (Yld.assign rfl) rfl rfl rfl ?_
        refine AO.yld _ (Yld.assign rfl) rfl rfl rfl ?_
        refine AO.nil ?_
        refine FnE.ret () [0] [0] Tryd.results19 (RVs.cons (RV.tmp rfl) (RVs.cons (RV.tmp rfl) RVs.nil)) rfl rfl rfl ?_ ?_ ⟨⟨_, rfl, ?_⟩, trivial⟩
        · -- holds
          trivial
        · -- value
          first | (rw [hno]; rfl) | (rw [hfin]; rfl)
        · -- thing 0
          first | rfl | exact vecE (by first | rfl | (simp_all; done) | grind) | (simp_all; done)
      · -- s24 False
        have hye := hv19.eq s24
        have hlim := hv19.lim
        refine AO.yldG _ (Yld.move rfl) rfl rfl rfl rfl rfl ?_
        refine AO.callW (wantedG rfl rfl rfl) [0] [0] [0] rfl rfl Tryd.call35 rfl (impl_Decimal_c (by omega) (by omega)) (.own rfl) rfl (fun _ => rfl) ⟨rfl, trivial⟩ rfl (fun _ => rfl) (fun _ => rfl) (fun _ _ => ?_)
        refine AO.yldG _ (Yld.move rfl) rfl rfl rfl rfl rfl ?_
        refine AO.yldG _ (Yld.cmpStr rfl rfl rfl) rfl rfl rfl rfl rfl ?_
        refine AO.yld _ (Yld.pickF rfl rfl) rfl rfl rfl ?_
        refine AO.nil ?_
        refine AC.cond _ rfl (fun c29 => ?_) (fun c29 => ?_)
        · -- c29 True
          have h29 : ¬ Lib.itoa v19 = s := by simpa using c29
          have hno : readDec s = none := by rw [hye, if_neg h29]
          refine AC.seq ?_
          refine AC.region ?_
          refine AO.yld _ (Yld.assign rfl) rfl rfl rfl ?_
          refine AO.yld _ (Yld.assign rfl) rfl rfl rfl ?_
          refine AO.nil ?_
          refine FnE.ret () [0] [0] Tryd.results19 (RVs.cons (RV.tmp rfl) (RVs.cons (RV.tmp rfl) RVs.nil)) rfl rfl rfl ?_ ?_ ⟨⟨_, rfl, ?_⟩, trivial⟩
          · -- holds
            trivial
          · -- value
            first | (rw [hno]; rfl) | (rw [hfin]; rfl)
          · -- thing 0
            first | rfl | exact vecE (by first | rfl | (simp_all; done) | grind) | (simp_all; done)
        · -- c29 False
          have h29 : Lib.itoa v19 = s := by simpa using c29
          have hfin : readDec s = some v19 := by rw [hye, if_pos h29]
          refine AC.skip ?_
          refine AC.seq ?_
          refine AC.region ?_
          refine AO.yld _ (Yld.move rfl) rfl rfl rfl ?_
          refine AO.yld _ (Yld.assign rfl) rfl rfl rfl ?_
          refine AO.yld _ (Yld.assign rfl) rfl rfl rfl ?_
          refine AO.nil ?_
          refine FnE.ret () [0] [0] Tryd.results19 (RVs.cons (RV.tmp rfl) (RVs.cons (RV.tmp rfl) RVs.nil)) rfl rfl rfl ?_ ?_ ⟨⟨_, rfl, ?_⟩, trivial⟩
          · -- holds
            trivial
          · -- value
            first | (rw [hno]; rfl) | (rw [hfin]; rfl)
          · -- thing 0
            first | rfl | exact vecE (by first | rfl | (simp_all; done) | grind) | (simp_all; done)

theorem spec_l01Split_c {s : List UInt8} (hs : s.length ≤ 1048576) :
    FnE (α := Unit) Tryd.prog 15 [.p (.v (str s)), .p (.v (.int .u8 32))] [] [] (fun _ => True) (fun _ => .p (.sl 1 ((sps 32 s).map Go.V.encS))) (fun _ => []) := by
  refine FnE.intro Tryd.func15 rfl Tryd.ntmps15 rfl rfl (fun w0 F0 η φ w => ?_)
  refine AC.seq ?_
  refine AC.region ?_
  refine AO.yld _ (Yld.assign rfl) rfl rfl rfl ?_
  refine AO.nil ?_
  refine AC.seq ?_
  refine AC.region ?_
  refine AO.buildSlice (rows := []) 0 Tryd.underlying38 ty9 rfl rfl rfl rfl rfl rfl rfl rfl rfl ?_
  refine AO.yld _ (Yld.assign rfl) rfl rfl rfl ?_
  refine AO.nil ?_
  refine AC.seq ?_
  refine AC.region ?_
  refine AO.yld _ (Yld.assign rfl) rfl rfl rfl ?_
  refine AO.nil ?_
  refine AC.seq ?_
  refine AC.seq ?_
  refine AC.region ?_
  refine AO.yld _ (Yld.assign rfl) rfl rfl rfl ?_
  refine AO.nil ?_
  refine AC.block ?_
  refine AC.loopC [(0, _), (1, _), (4, _)] [(900, _)] (fun (k : Nat) => [(7, .p (.v (.int .i64 (k : Int)))), (6, .p (.v (.int .i64 (frTo s k : Int)))), (5, .h 0)]) (fun (k : Nat) => [(0, .vec 9 1 ((accTo s k).map Go.V.encS))]) (fun (k : Nat) => k ≤ s.length) (fun (k : Nat) => s.length - k) 0 ⟨rfl, rfl, rfl, trivial⟩ ⟨rfl, trivial⟩ ⟨rfl, rfl, rfl, trivial⟩ ⟨rfl, trivial⟩ ?_ (fun k hJ => ?_)
  · exact Nat.zero_le _
  · -- round
    refine AC.seq ?_
    refine AC.seq ?_
    refine AC.region ?_
    refine AO.yld _ (Yld.move rfl) rfl rfl rfl ?_
    refine AO.yld _ (Yld.move rfl) rfl rfl rfl ?_
    refine AO.yld _ (Yld.lenStr Tryd.underlying9 rfl) rfl rfl rfl ?_
    refine AO.yld _ (Yld.int rfl rfl rfl) rfl rfl rfl ?_
    refine AO.nil ?_
    refine AC.cond _ rfl (fun c12 => ?_) (fun c12 => ?_)
    · -- c12 True
      have hk : k < s.length := by have h := c12; simp only [decide_eq_true_eq] at h; omega
      obtain ⟨c, hc⟩ := get_some hk
      have hinv := cut_inv s k (by omega)
      refine AC.skip ?_
      refine AC.seq ?_
      refine AC.block ?_
      refine AC.seq ?_
      refine AC.region ?_
      refine AO.yld _ (Yld.move rfl) rfl rfl rfl ?_
      refine AO.yld _ (Yld.move rfl) rfl rfl rfl ?_
      refine AO.yld _ (Yld.indexStr Tryd.underlying9 rfl rfl (by omega) hc) rfl rfl rfl ?_
      refine AO.yld _ (Yld.move rfl) rfl rfl rfl ?_
      refine AO.yld _ (Yld.int rfl rfl rfl) rfl rfl rfl ?_
      refine AO.nil ?_
      refine AC.cond _ rfl (fun c19 => ?_) (fun c19 => ?_)
      · -- c19 True
        have h19 := c19; simp only [decide_eq_true_eq, decide_eq_false_iff_not, beq_iff_eq, beq_eq_false_iff_ne, bne_iff_ne, bne_eq_false_iff_eq, ne_eq, Decidable.not_not] at h19
        obtain rfl : c = 32 := UInt8.toNat_inj.1 (by have : (32 : UInt8).toNat = 32 := rfl; omega)
        refine AC.seq ?_
        refine AC.region ?_
        refine AO.yld _ (Yld.move rfl) rfl rfl rfl ?_
        refine AO.yld _ (Yld.move rfl) rfl rfl rfl ?_
        refine AO.yld _ (Yld.move rfl) rfl rfl rfl ?_
        refine AO.yld _ (Yld.move rfl) rfl rfl rfl ?_
        refine AO.yld _ (Yld.sliceStr Tryd.underlying9 rfl (.some (n := frTo s k) rfl (by omega)) (.some (n := k) rfl (by omega)) (by omega) (by omega)) rfl rfl rfl ?_
        refine AO.buildSlice (rows := [[_]]) 1 Tryd.underlying38 ty9 rfl rfl rfl rfl rfl rfl rfl rfl rfl ?_
        refine AO.append 0 Tryd.underlying38 ty9 rfl rfl rfl rfl rfl rfl rfl (by simp [pvOne, str]) (by simp only [List.length_map, List.length_cons, List.length_nil]; omega) (by simp only [List.length_map, List.length_cons, List.length_nil]; omega) rfl ?_
        refine AO.yld _ (Yld.assign rfl) rfl rfl rfl ?_
        refine AO.nil ?_
        refine AC.region ?_
        refine AO.yld _ (Yld.move rfl) rfl rfl rfl ?_
        refine AO.yld _ (Yld.add rfl rfl (by omega) (by omega)) rfl rfl rfl ?_
        refine AO.yld _ (Yld.assign rfl) rfl rfl rfl ?_
        refine AO.nil ?_
        refine AC.mark ?_
        refine AC.region ?_
        refine AO.yld _ (Yld.move rfl) rfl rfl rfl ?_
        refine AO.yld _ (Yld.add rfl rfl (by omega) (by omega)) rfl rfl rfl ?_
        refine AO.yld _ (Yld.assign rfl) rfl rfl rfl ?_
        refine AO.nil ?_
        refine AC.back ⟨k + 1, ?_, ?_, ⟨?_, ?_, ?_, trivial⟩, ⟨?_, trivial⟩, ⟨rfl, rfl, rfl, trivial⟩, ⟨rfl, trivial⟩⟩
        · exact hk
        · omega
        · rfl
        · show some (AV.p (PV.v (Value.int IntKind.i64 _))) = _; first | (rw [frTo_T hc]; rfl) | (rw [frTo_F hc h32])
        · rfl
        · first | (rw [accTo_T hc, map_snoc]; rfl) | (rw [accTo_F hc h32]; rfl)
      · -- c19 False
        have h19 := c19; simp only [decide_eq_true_eq, decide_eq_false_iff_not, beq_iff_eq, beq_eq_false_iff_ne, bne_iff_ne, bne_eq_false_iff_eq, ne_eq, Decidable.not_not] at h19
        have h32 : c ≠ 32 := fun e => by subst e; exact h19 rfl
        refine AC.skip ?_
        refine AC.mark ?_
        refine AC.region ?_
        refine AO.yld _ (Yld.move rfl) rfl rfl rfl ?_
        refine AO.yld _ (Yld.add rfl rfl (by omega) (by omega)) rfl rfl rfl ?_
        refine AO.yld _ (Yld.assign rfl) rfl rfl rfl ?_
        refine AO.nil ?_
        refine AC.back ⟨k + 1, ?_, ?_, ⟨?_, ?_, ?_, trivial⟩, ⟨?_, trivial⟩, ⟨rfl, rfl, rfl, trivial⟩, ⟨rfl, trivial⟩⟩
        · exact hk
        · omega
        · rfl
        · show some (AV.p (PV.v (Value.int IntKind.i64 _))) = _; first | (rw [frTo_T hc]; rfl) | (rw [frTo_F hc h32])
        · rfl
        · first | (rw [accTo_T hc, map_snoc]; rfl) | (rw [accTo_F hc h32]; rfl)
    · -- c12 False
      obtain rfl : k = s.length := by have h := c12; simp only [decide_eq_false_iff_not] at h; omega
      have hinv := cut_inv s s.length (by omega)
      refine AC.exit rfl ?_
      refine AC.seq ?_
      refine AC.region ?_
      refine AO.yld _ (Yld.move rfl) rfl rfl rfl ?_
      refine AO.yld _ (Yld.move rfl) rfl rfl rfl ?_
      refine AO.yld _ (Yld.move rfl) rfl rfl rfl ?_
      refine AO.yld _ (Yld.sliceStr Tryd.underlying9 rfl (.some (n := frTo s s.length) rfl (by omega)) .none (by omega) (by omega)) rfl rfl rfl ?_
      refine AO.buildSlice (rows := [[_]]) 1 Tryd.underlying38 ty9 rfl rfl rfl rfl rfl rfl rfl rfl rfl ?_
      refine AO.append 0 Tryd.underlying38 ty9 rfl rfl rfl rfl rfl rfl rfl (by simp [pvOne, str]) (by simp only [List.length_map, List.length_cons, List.length_nil]; omega) (by simp only [List.length_map, List.length_cons, List.length_nil]; omega) rfl ?_
      refine AO.yld _ (Yld.assign rfl) rfl rfl rfl ?_
      refine AO.nil ?_
      refine AC.freeze 0 rfl ?_
      refine FnE.ret () [] [] Tryd.results15 (RVs.cons (RV.tmp rfl) RVs.nil) rfl rfl rfl ?_ ?_ trivial
      · -- holds
        trivial
      · -- value
        rw [← cut_end s, map_snoc, List.take_length]; rfl

theorem spec_ReadMedia_c {s : List UInt8} (hs : s.length ≤ 1048576) :
    Pure Tryd.prog 6 [.v (str s)] (.tup [.agg (encNV ((rdMedia s).getD ⟨[], 0⟩)), .v (.bool (rdMedia s).isSome)]) := by
  refine Pure.intro Tryd.func6 rfl Tryd.ntmps6 rfl rfl (fun w => ?_)
  refine AC.seq ?_
  refine AC.region ?_
  refine AO.alloc 0 Tryd.zeroValue23 rfl rfl rfl ?_
  refine AO.yld _ (Yld.assign rfl) rfl rfl rfl ?_
  refine AO.nil ?_
  refine AC.seq ?_
  refine AC.region ?_
  refine AO.yld _ (Yld.move rfl) rfl rfl rfl ?_
  refine AO.callW (wantedN rfl) [] [] [] rfl rfl Tryd.call15 rfl (spec_l01Split_c (by first | assumption | omega)) (.own rfl) rfl (fun _ => rfl) trivial rfl (fun _ => rfl) (fun _ => rfl) (fun _ _ => ?_)
  refine AO.yld _ (Yld.assign rfl) rfl rfl rfl ?_
  refine AO.nil ?_
  refine AC.seq ?_
  refine AC.seq ?_
  refine AC.region ?_
  refine AO.yld _ (Yld.move rfl) rfl rfl rfl ?_
  refine AO.yld _ (Yld.len Tryd.underlying38 rfl rfl) rfl rfl rfl ?_
  refine AO.yld _ (Yld.int rfl rfl rfl) rfl rfl rfl ?_
  refine AO.nil ?_
  refine AC.cond _ rfl (fun c12 => ?_) (fun c12 => ?_)
  · -- c12 True
    have hno : rdMedia s = none := rdMedia_len (by have h := c12; simp only [List.length_map, bne_iff_ne, ne_eq] at h; omega)
    refine AC.seq ?_
    refine AC.region ?_
    refine AO.yld _ (Yld.buildA (zs := [.v (str []), .v (.int .i64 0)]) bld23 rfl rfl) rfl rfl rfl ?_
    refine AO.store Tryd.sizeOf23 rfl rfl rfl rfl rfl rfl ?_
    refine AO.yld _ (Yld.assign rfl) rfl rfl rfl ?_
    refine AO.nil ?_
    refine Pure.retT Tryd.results6 (RVs.cons (RV.cell Tryd.isAgg23 Tryd.sizeOf23 rfl rfl rfl rfl) (RVs.cons (RV.tmp rfl) RVs.nil)) rfl ?_
    first | (rw [hno]; rfl) | (rw [hye, hn]; rfl)
  · -- c12 False
    have hlen2 : (sps 32 s).length = 2 := by have h := c12; simp only [List.length_map, bne_eq_false_iff_eq] at h; omega
    obtain ⟨a, b, hab⟩ : ∃ a b, sps 32 s = [a, b] := by match hq : sps 32 s, hlen2 with | [a, b], _ => exact ⟨a, b, rfl⟩
    have hf := sps_free 32 _ s (Nat.le_refl _)
    have hal := (hf a (by rw [hab]; simp)).2
    have hbl := (hf b (by rw [hab]; simp)).2
    rw [hab]
    have hrow0 : ([a, b].map Go.V.encS)[0]? = some (Go.V.encS a) := rfl
    have hrow1 : ([a, b].map Go.V.encS)[1]? = some (Go.V.encS b) := rfl
    refine AC.skip ?_
    refine AC.seq ?_
    refine AC.region ?_
    refine AO.yld _ (Yld.move rfl) rfl rfl rfl ?_
    refine AO.yld _ (Yld.indexSl Tryd.underlying38 Tryd.sizeOf9 rfl rfl hrow1 rfl) rfl rfl rfl ?_
    refine AO.yld _ (Yld.load Tryd.isAgg9 rfl rfl) rfl rfl rfl ?_
    refine AO.yld _ (Yld.call rfl rfl Tryd.call16 rfl rfl rfl (spec_l01Number_c (s := b) (by omega)) rfl) rfl rfl rfl ?_
    refine AO.yld _ (Yld.move rfl) rfl rfl rfl ?_
    refine AO.yld _ (Yld.extract rfl rfl rfl) rfl rfl rfl ?_
    refine AO.yld _ (Yld.extract rfl rfl rfl) rfl rfl rfl ?_
    refine AO.yld _ (Yld.assign rfl) rfl rfl rfl ?_
    refine AO.yld _ (Yld.assign rfl) rfl rfl rfl ?_
    refine AO.nil ?_
    refine AC.seq ?_
    refine AC.region ?_
    refine AO.yld _ (Yld.move rfl) rfl rfl rfl ?_
    refine AO.yld _ (Yld.indexSl Tryd.underlying38 Tryd.sizeOf9 rfl rfl hrow0 rfl) rfl rfl rfl ?_
    refine AO.yld _ (Yld.load Tryd.isAgg9 rfl rfl) rfl rfl rfl ?_
    refine AO.yld _ (Yld.move rfl) rfl rfl rfl ?_
    refine AO.yld _ (Yld.buildA (zs := [.v (str []), .v (.int .i64 0)]) bld23 rfl rfl) rfl rfl rfl ?_
    refine AO.alloc 1 Tryd.zeroValue23 rfl rfl rfl ?_
    refine AO.store Tryd.sizeOf23 rfl rfl rfl rfl rfl rfl ?_
    refine AO.nil ?_
    refine AC.seq ?_
    refine AC.seq ?_
    refine AC.region ?_
    refine AO.yld _ (Yld.move rfl) rfl rfl rfl ?_
    refine AO.yld _ (Yld.not rfl) rfl rfl rfl ?_
    refine AO.yld _ (Yld.move rfl) rfl rfl rfl ?_
    refine AO.splitAt 28 _ rfl (fun s28 => ?_) (fun s28 => ?_)
    · -- s28 True
      have hno : rdMedia s = none := by rw [rdMedia_two hab]; have h := s28; cases hq : readDec b with | none => rfl | some n => rw [hq] at h; cases h
      refine AO.skipF rfl rfl rfl rfl rfl ?_
      refine AO.skipF rfl rfl rfl rfl rfl ?_
      refine AO.yld _ (Yld.pickT rfl rfl) rfl rfl rfl ?_
      refine AO.nil ?_
      refine AC.condT rfl ?_
      refine AC.seq ?_
      refine AC.region ?_
      refine AO.yld _ (Yld.buildA (zs := [.v (str []), .v (.int .i64 0)]) bld23 rfl rfl) rfl rfl rfl ?_
      refine AO.store Tryd.sizeOf23 rfl rfl rfl rfl rfl rfl ?_
      refine AO.yld _ (Yld.assign rfl) rfl rfl rfl ?_
      refine AO.nil ?_
      refine Pure.retT Tryd.results6 (RVs.cons (RV.cell Tryd.isAgg23 Tryd.sizeOf23 rfl rfl rfl rfl) (RVs.cons (RV.tmp rfl) RVs.nil)) rfl ?_
      first | (rw [hno]; rfl) | (rw [hye, hn]; rfl)
    · -- s28 False
      obtain ⟨n, hn⟩ : ∃ n, readDec b = some n := by have h := s28; cases hq : readDec b with | none => rw [hq] at h; cases h | some n => exact ⟨n, rfl⟩
      refine AO.yldG _ (Yld.call rfl rfl Tryd.call17 rfl rfl rfl (spec_l25One_c (x := ⟨a, (readDec b).getD 0⟩) (by show a.length ≤ _; omega)) rfl) rfl rfl rfl rfl rfl ?_
      refine AO.yldG _ (Yld.not rfl) rfl rfl rfl rfl rfl ?_
      refine AO.yld _ (Yld.pickF rfl rfl) rfl rfl rfl ?_
      refine AO.nil ?_
      refine AC.cond _ rfl (fun c31 => ?_) (fun c31 => ?_)
      · -- c31 True
        have hno : rdMedia s = none := by have h := c31; rw [Bool.not_eq_true'] at h; rw [hn] at h; rw [rdMedia_two hab, hn]; show (if okMedia ⟨a, n⟩ = true then _ else _) = _; rw [if_neg]; rw [show okMedia ⟨a, n⟩ = false from h]; decide
        refine AC.seq ?_
        refine AC.region ?_
        refine AO.yld _ (Yld.buildA (zs := [.v (str []), .v (.int .i64 0)]) bld23 rfl rfl) rfl rfl rfl ?_
        refine AO.store Tryd.sizeOf23 rfl rfl rfl rfl rfl rfl ?_
        refine AO.yld _ (Yld.assign rfl) rfl rfl rfl ?_
        refine AO.nil ?_
        refine Pure.retT Tryd.results6 (RVs.cons (RV.cell Tryd.isAgg23 Tryd.sizeOf23 rfl rfl rfl rfl) (RVs.cons (RV.tmp rfl) RVs.nil)) rfl ?_
        first | (rw [hno]; rfl) | (rw [hye, hn]; rfl)
      · -- c31 False
        have hye : rdMedia s = some ⟨a, n⟩ := by have h := c31; rw [Bool.not_eq_false'] at h; rw [hn] at h; rw [rdMedia_two hab, hn]; exact if_pos h
        refine AC.skip ?_
        refine AC.seq ?_
        refine AC.region ?_
        refine AO.yld _ (Yld.loadAgg Tryd.isAgg23 Tryd.sizeOf23 rfl rfl rfl rfl) rfl rfl rfl ?_
        refine AO.store Tryd.sizeOf23 rfl rfl rfl rfl rfl rfl ?_
        refine AO.yld _ (Yld.assign rfl) rfl rfl rfl ?_
        refine AO.nil ?_
        refine Pure.retT Tryd.results6 (RVs.cons (RV.cell Tryd.isAgg23 Tryd.sizeOf23 rfl rfl rfl rfl) (RVs.cons (RV.tmp rfl) RVs.nil)) rfl ?_
        first | (rw [hno]; rfl) | (rw [hye, hn]; rfl)

theorem impl_ReadMedia_c {s : List UInt8} (hs : s.length ≤ 1048576) :
    FnE (α := Unit) Tryd.prog 7 [.p (.v (str s))] [(0, powRE Tryd.prog)] [0] (fun _ => True) (fun _ => .tup [.agg ((encNV ((rdMedia s).getD ⟨[], 0⟩)).map .p), .p (.v (.bool (rdMedia s).isSome))]) (fun _ => [(0, powRE Tryd.prog)]) := by
  have hcl := cut_len s 32
  refine FnE.intro Tryd.func7 rfl Tryd.ntmps7 rfl rfl (fun w0 F0 η φ w => ?_)
  refine AC.seq ?_
  refine AC.region ?_
  refine AO.alloc 1 Tryd.zeroValue23 rfl rfl rfl ?_
  refine AO.yld _ (Yld.assign rfl) rfl rfl rfl ?_
  refine AO.nil ?_
  refine AC.seq ?_
  refine AC.region ?_
  refine AO.yld _ (Yld.move rfl) rfl rfl rfl ?_
  refine AO.callW (wantedN rfl) [0] [0] [0] rfl rfl Tryd.call18 rfl (cut_fnE (g0 := 0) (by kernel_rfl) Tryd.strings_Cut (by omega)) (.own rfl) rfl (fun _ => rfl) ⟨rfl, trivial⟩ rfl (fun _ => rfl) (fun _ => rfl) (fun _ _ => ?_)
  refine AO.yld _ (Yld.move rfl) rfl rfl rfl ?_
  refine AO.yld _ (Yld.extract rfl rfl rfl) rfl rfl rfl ?_
  refine AO.yld _ (Yld.extract rfl rfl rfl) rfl rfl rfl ?_
  refine AO.yld _ (Yld.extract rfl rfl rfl) rfl rfl rfl ?_
  refine AO.yld _ (Yld.assign rfl) rfl rfl rfl ?_
  refine AO.yld _ (Yld.assign rfl) rfl rfl rfl ?_
  refine AO.yld _ (Yld.assign rfl) rfl rfl rfl ?_
  refine AO.nil ?_
  refine AC.seq ?_
  refine AC.region ?_
  refine AO.yld _ (Yld.move rfl) rfl rfl rfl ?_
  refine AO.callW (wantedN rfl) [0] [0] [0] rfl rfl Tryd.call19 rfl (impl_ReadDecimal_c) (.own rfl) rfl (fun _ => rfl) ⟨rfl, trivial⟩ rfl (fun _ => rfl) (fun _ => rfl) (fun _ _ => ?_)
  refine AO.yld _ (Yld.move rfl) rfl rfl rfl ?_
  refine AO.yld _ (Yld.extract rfl rfl rfl) rfl rfl rfl ?_
  refine AO.yld _ (Yld.extract rfl rfl rfl) rfl rfl rfl ?_
  refine AO.yld _ (Yld.assign rfl) rfl rfl rfl ?_
  refine AO.yld _ (Yld.assign rfl) rfl rfl rfl ?_
  refine AO.nil ?_
  refine AC.seq ?_
  refine AC.region ?_
  refine AO.yld _ (Yld.move rfl) rfl rfl rfl ?_
  refine AO.yld _ (Yld.move rfl) rfl rfl rfl ?_
  refine AO.yld _ (Yld.buildA (zs := [.v (str []), .v (.int .i64 0)]) bld23 rfl rfl) rfl rfl rfl ?_
  refine AO.alloc 2 Tryd.zeroValue23 rfl rfl rfl ?_
  refine AO.store Tryd.sizeOf23 rfl rfl rfl rfl rfl rfl ?_
  refine AO.nil ?_
  refine AC.seq ?_
  refine AC.seq ?_
  refine AC.region ?_
  refine AO.yld _ (Yld.move rfl) rfl rfl rfl ?_
  refine AO.yld _ (Yld.not rfl) rfl rfl rfl ?_
  refine AO.yld _ (Yld.move rfl) rfl rfl rfl ?_
  refine AO.splitAt 26 _ rfl (fun s26 => ?_) (fun s26 => ?_)
  · -- s26 True
    have hno : rdMedia s = none := by rw [rdMedia_cut]; have h := s26; cases hq : readDec (Lib.cut s [32]).2.1 with | none => rfl | some n => rw [hq] at h; cases h
    refine AO.skipF rfl rfl rfl rfl rfl ?_
    refine AO.skipF rfl rfl rfl rfl rfl ?_
    refine AO.skipF rfl rfl rfl rfl rfl ?_
    refine AO.yld _ (Yld.pickT rfl rfl) rfl rfl rfl ?_
    refine AO.nil ?_
    refine AC.condT rfl ?_
    refine AC.seq ?_
    refine AC.region ?_
    refine AO.yld _ (Yld.buildA (zs := [.v (str []), .v (.int .i64 0)]) bld23 rfl rfl) rfl rfl rfl ?_
    refine AO.store Tryd.sizeOf23 rfl rfl rfl rfl rfl rfl ?_
    refine AO.yld _ (Yld.assign rfl) rfl rfl rfl ?_
    refine AO.nil ?_
    refine FnE.ret () [0] [0] Tryd.results7 (RVs.cons (RV.cell Tryd.isAgg23 Tryd.sizeOf23 rfl rfl rfl rfl) (RVs.cons (RV.tmp rfl) RVs.nil)) rfl rfl rfl ?_ ?_ ⟨⟨_, rfl, ?_⟩, trivial⟩
    · -- holds
      trivial
    · -- value
      first | (rw [hno]; rfl) | (rw [hye, hn]; rfl)
    · -- thing 0
      first | rfl | exact vecE (by first | rfl | (simp_all; done) | grind) | (simp_all; done)
  · -- s26 False
    obtain ⟨n, hn⟩ : ∃ n, readDec (Lib.cut s [32]).2.1 = some n := by have h := s26; cases hq : readDec (Lib.cut s [32]).2.1 with | none => rw [hq] at h; cases h | some n => exact ⟨n, rfl⟩
    refine AO.yldG _ (Yld.loadAgg Tryd.isAgg23 Tryd.sizeOf23 rfl rfl rfl rfl) rfl rfl rfl rfl rfl ?_
    refine AO.yldG _ (Yld.call rfl rfl Tryd.call20 rfl rfl rfl (impl_validFile_c (x := ⟨(Lib.cut s [32]).1, (readDec (Lib.cut s [32]).2.1).getD 0⟩) (by show (Lib.cut s [32]).1.length ≤ _; omega)) rfl) rfl rfl rfl rfl rfl ?_
    refine AO.yldG _ (Yld.not rfl) rfl rfl rfl rfl rfl ?_
    refine AO.yld _ (Yld.pickF rfl rfl) rfl rfl rfl ?_
    refine AO.nil ?_
    refine AC.cond _ rfl (fun c30 => ?_) (fun c30 => ?_)
    · -- c30 True
      have hno : rdMedia s = none := by have h := c30; rw [Bool.not_eq_true'] at h; rw [hn] at h; rw [rdMedia_cut, hn]; show (if okMedia ⟨_, n⟩ = true then _ else _) = _; rw [if_neg]; rw [show okMedia ⟨_, n⟩ = false from h]; decide
      refine AC.seq ?_
      refine AC.region ?_
      refine AO.yld _ (Yld.buildA (zs := [.v (str []), .v (.int .i64 0)]) bld23 rfl rfl) rfl rfl rfl ?_
      refine AO.store Tryd.sizeOf23 rfl rfl rfl rfl rfl rfl ?_
      refine AO.yld _ (Yld.assign rfl) rfl rfl rfl ?_
      refine AO.nil ?_
      refine FnE.ret () [0] [0] Tryd.results7 (RVs.cons (RV.cell Tryd.isAgg23 Tryd.sizeOf23 rfl rfl rfl rfl) (RVs.cons (RV.tmp rfl) RVs.nil)) rfl rfl rfl ?_ ?_ ⟨⟨_, rfl, ?_⟩, trivial⟩
      · -- holds
        trivial
      · -- value
        first | (rw [hno]; rfl) | (rw [hye, hn]; rfl)
      · -- thing 0
        first | rfl | exact vecE (by first | rfl | (simp_all; done) | grind) | (simp_all; done)
    · -- c30 False
      have hye : rdMedia s = some ⟨(Lib.cut s [32]).1, n⟩ := by have h := c30; rw [Bool.not_eq_false'] at h; rw [hn] at h; rw [rdMedia_cut, hn]; exact if_pos h
      refine AC.skip ?_
      refine AC.seq ?_
      refine AC.region ?_
      refine AO.yld _ (Yld.loadAgg Tryd.isAgg23 Tryd.sizeOf23 rfl rfl rfl rfl) rfl rfl rfl ?_
      refine AO.store Tryd.sizeOf23 rfl rfl rfl rfl rfl rfl ?_
      refine AO.yld _ (Yld.assign rfl) rfl rfl rfl ?_
      refine AO.nil ?_
      refine FnE.ret () [0] [0] Tryd.results7 (RVs.cons (RV.cell Tryd.isAgg23 Tryd.sizeOf23 rfl rfl rfl rfl) (RVs.cons (RV.tmp rfl) RVs.nil)) rfl rfl rfl ?_ ?_ ⟨⟨_, rfl, ?_⟩, trivial⟩
      · -- holds
        trivial
      · -- value
        first | (rw [hno]; rfl) | (rw [hye, hn]; rfl)
      · -- thing 0
        first | rfl | exact vecE (by first | rfl | (simp_all; done) | grind) | (simp_all; done)

end Go.Proofs.YtkfdjahknkoigaaDoor
