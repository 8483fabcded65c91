/- Contracts of functions of the program, each by a walk of its text in the calculus V. -/
import Derived.Test.YtghcdgjbgljipaaDoorXA
import Derived.Test.YtghcdgjbgljipaaDoorD43
import Derived.Test.YtghcdgjbgljipaaDoorV27
import Derived.Test.YtghcdgjbgljipaaDoorSh2
set_option linter.all false
set_option linter.unusedSimpArgs false
set_option linter.unnecessarySimpa false
set_option linter.unusedVariables false
namespace Go.Proofs.YtghcdgjbgljipaaDoor
open Go Go.V

theorem impl_Decimal_c {n : Int} (h0 : -9223372036854775808 ≤ n) (h1 : n ≤ 9223372036854775807) :
    FnE (α := Unit) Tryd.prog 53 [.p (.v (.int .i64 n))] [(0, powRE Tryd.prog)] [0] (fun _ => True) (fun _ => .p (.v (str (Lib.itoa n)))) (fun _ => [(0, powRE Tryd.prog)]) := by
  refine FnE.intro Tryd.func53 rfl Tryd.ntmps53 rfl rfl (fun w0 F0 η φ w => ?_)
  refine AC.seq ?_
  refine AC.region ?_
  refine AO.yld _ (Yld.assign rfl) rfl rfl rfl ?_
  refine AO.nil ?_
  refine AC.seq ?_
  refine AC.region ?_
  refine AO.yld _ (Yld.move rfl) rfl rfl rfl ?_
  refine AO.callW (wantedN rfl) [0] [0] [0] rfl rfl Tryd.call86 rfl (fmt_fnE ⟨Tryd.strconv_FormatInt_10⟩ (by omega) (by omega)) (.own rfl) rfl (fun _ => rfl) ⟨rfl, trivial⟩ rfl (fun _ => rfl) (fun _ => rfl) (fun _ _ => ?_)
  refine AO.yld _ (Yld.assign rfl) rfl rfl rfl ?_
  refine AO.nil ?_
  refine FnE.ret () [0] [0] Tryd.results53 (RVs.cons (RV.tmp rfl) RVs.nil) rfl rfl rfl ?_ ?_ ⟨⟨_, rfl, ?_⟩, trivial⟩
  · -- holds
    trivial
  · -- value
    rfl
  · -- thing 0
    first | rfl | exact vecE (by first | rfl | (simp_all; done) | grind) | (simp_all; done)

theorem parLib : ParInt Tryd.prog 121 where
  ok := fun s h v e w => (Tryd.strconv_ParseInt_10_at64_ok s h v e w).mono fun _ _ ⟨h1, h2⟩ => ⟨h1, h2.imp id fun ⟨t, ht⟩ => ⟨_, t, ht⟩⟩
  bad := fun s h e tp p w hv => (Tryd.strconv_ParseInt_10_at64_syntax_var s h e tp p w hv).mono fun _ _ ⟨_, h1, _, _, h4⟩ => ⟨⟨_, _, h1⟩, h4⟩

theorem impl_ReadDecimal_c {s : List UInt8} :
    FnE (α := Unit) Tryd.prog 101 [.p (.v (str s))] [(0, powRE Tryd.prog)] [0] (fun _ => True) (fun _ => .tup [.p (.v (.int .i64 ((readDec s).getD 0))), .p (.v (.bool (readDec s).isSome))]) (fun _ => [(0, powRE Tryd.prog)]) := by
  refine FnE.intro Tryd.func101 rfl Tryd.ntmps101 rfl rfl (fun w0 F0 η φ w => ?_)
  refine AC.seq ?_
  refine AC.region ?_
  refine AO.yld _ (Yld.assign rfl) rfl rfl rfl ?_
  refine AO.yld _ (Yld.assign rfl) rfl rfl rfl ?_
  refine AO.nil ?_
  refine AC.seq ?_
  refine AC.region ?_
  refine AO.yld _ (Yld.move rfl) rfl rfl rfl ?_
  refine AO.yld _ (Yld.call rfl rfl Tryd.call120 rfl rfl rfl (trim_pure Tryd.strings_TrimPrefix) rfl) rfl rfl rfl ?_
  refine AO.yld _ (Yld.assign rfl) rfl rfl rfl ?_
  refine AO.nil ?_
  refine AC.seq ?_
  refine AC.seq ?_
  refine AC.region ?_
  refine AO.yld _ (Yld.move rfl) rfl rfl rfl ?_
  refine AO.yld _ (Yld.lenStr Tryd.underlying9 rfl) rfl rfl rfl ?_
  refine AO.yld _ (Yld.int rfl rfl rfl) rfl rfl rfl ?_
  refine AO.yld _ (Yld.move rfl) rfl rfl rfl ?_
  refine AO.splitAt 12 _ rfl (fun s12 => ?_) (fun s12 => ?_)
  · -- s12 True
    have h12 := s12; simp only [decide_eq_true_eq, decide_eq_false_iff_not, beq_iff_eq, beq_eq_false_iff_ne, bne_iff_ne, bne_eq_false_iff_eq, ne_eq, Decidable.not_not] at h12
    have hno : readDec s = none := by unfold readDec; rw [if_neg (by omega)]
    refine AO.skipF rfl rfl rfl rfl rfl ?_
    refine AO.skipF rfl rfl rfl rfl rfl ?_
    refine AO.skipF rfl rfl rfl rfl rfl ?_
    refine AO.yld _ (Yld.pickT rfl rfl) rfl rfl rfl ?_
    refine AO.nil ?_
    refine AC.condT rfl ?_
    refine AC.seq ?_
    refine AC.region ?_
    refine AO.yld _ (Yld.assign rfl) rfl rfl rfl ?_
    refine AO.yld _ (Yld.assign rfl) rfl rfl rfl ?_
    refine AO.nil ?_
    refine FnE.ret () [0] [0] Tryd.results101 (RVs.cons (RV.tmp rfl) (RVs.cons (RV.tmp rfl) RVs.nil)) rfl rfl rfl ?_ ?_ ⟨⟨_, rfl, ?_⟩, trivial⟩
    · -- holds
      trivial
    · -- value
      first | (rw [hno]; rfl) | (rw [hfin]; rfl)
    · -- thing 0
      first | rfl | exact vecE (by first | rfl | (simp_all; done) | grind) | (simp_all; done)
  · -- s12 False
    have h12 := s12; simp only [decide_eq_true_eq, decide_eq_false_iff_not, beq_iff_eq, beq_eq_false_iff_ne, bne_iff_ne, bne_eq_false_iff_eq, ne_eq, Decidable.not_not] at h12
    refine AO.yldG _ (Yld.move rfl) rfl rfl rfl rfl rfl ?_
    refine AO.yldG _ (Yld.lenStr Tryd.underlying9 rfl) rfl rfl rfl rfl rfl ?_
    refine AO.yldG _ (Yld.int rfl rfl rfl) rfl rfl rfl rfl rfl ?_
    refine AO.yld _ (Yld.pickF rfl rfl) rfl rfl rfl ?_
    refine AO.nil ?_
    refine AC.cond _ rfl (fun c16 => ?_) (fun c16 => ?_)
    · -- c16 True
      have h16 := c16; simp only [decide_eq_true_eq, decide_eq_false_iff_not, beq_iff_eq, beq_eq_false_iff_ne, bne_iff_ne, bne_eq_false_iff_eq, ne_eq, Decidable.not_not] at h16
      have hno : readDec s = none := by unfold readDec; rw [if_neg (by omega)]
      refine AC.seq ?_
      refine AC.region ?_
      refine AO.yld _ (Yld.assign rfl) rfl rfl rfl ?_
      refine AO.yld _ (Yld.assign rfl) rfl rfl rfl ?_
      refine AO.nil ?_
      refine FnE.ret () [0] [0] Tryd.results101 (RVs.cons (RV.tmp rfl) (RVs.cons (RV.tmp rfl) RVs.nil)) rfl rfl rfl ?_ ?_ ⟨⟨_, rfl, ?_⟩, trivial⟩
      · -- holds
        trivial
      · -- value
        first | (rw [hno]; rfl) | (rw [hfin]; rfl)
      · -- thing 0
        first | rfl | exact vecE (by first | rfl | (simp_all; done) | grind) | (simp_all; done)
    · -- c16 False
      have h16 := c16; simp only [decide_eq_true_eq, decide_eq_false_iff_not, beq_iff_eq, beq_eq_false_iff_ne, bne_iff_ne, bne_eq_false_iff_eq, ne_eq, Decidable.not_not] at h16
      have hl : 1 ≤ (mag s).length ∧ (mag s).length ≤ 18 := by omega
      refine AC.skip ?_
      refine AC.seq ?_
      refine AC.region ?_
      refine AO.yld _ (Yld.move rfl) rfl rfl rfl ?_
      refine AO.callW (wantedN rfl) [0] [0] [0] rfl rfl Tryd.call121 rfl (par_fnE parLib hl) (.own rfl) rfl (fun ⟨_, _⟩ => rfl) ⟨rfl, trivial⟩ rfl (fun ⟨_, _⟩ => rfl) (fun ⟨_, _⟩ => rfl) (fun ⟨v19, u19⟩ hv19 => ?_)
      dsimp only at hv19
      refine AO.yld _ (Yld.move rfl) rfl rfl rfl ?_
      refine AO.yld _ (Yld.extract rfl rfl rfl) rfl rfl rfl ?_
      refine AO.yld _ (Yld.extract rfl rfl rfl) rfl rfl rfl ?_
      refine AO.yld _ (Yld.assign rfl) rfl rfl rfl ?_
      refine AO.yld _ (Yld.assign rfl) rfl rfl rfl ?_
      refine AO.nil ?_
      refine AC.seq ?_
      refine AC.seq ?_
      refine AC.region ?_
      refine AO.yld _ (Yld.move rfl) rfl rfl rfl ?_
      refine AO.yld _ (Yld.neNil Tryd.underlying157 rfl hv19.iface) rfl rfl rfl ?_
      refine AO.yld _ (Yld.move rfl) rfl rfl rfl ?_
      refine AO.splitAt 24 _ rfl (fun s24 => ?_) (fun s24 => ?_)
      · -- s24 True
        have hno := hv19.ne s24
        refine AO.skipF rfl rfl rfl rfl rfl ?_
        refine AO.skipF rfl rfl rfl rfl rfl ?_
        refine AO.skipF rfl rfl rfl rfl rfl ?_
        refine AO.skipF rfl rfl rfl rfl rfl ?_
        refine AO.yld _ (Yld.pickT rfl rfl) rfl rfl rfl ?_
        refine AO.nil ?_
        refine AC.condT rfl ?_
        refine AC.seq ?_
        refine AC.region ?_
        refine AO.yld _ (Yld.assign rfl) rfl rfl rfl ?_
        refine AO.yld _ (Yld.assign rfl) rfl rfl rfl ?_
        refine AO.nil ?_
        refine FnE.ret () [0] [0] Tryd.results101 (RVs.cons (RV.tmp rfl) (RVs.cons (RV.tmp rfl) RVs.nil)) rfl rfl rfl ?_ ?_ ⟨⟨_, rfl, ?_⟩, trivial⟩
        · -- holds
          trivial
        · -- value
          first | (rw [hno]; rfl) | (rw [hfin]; rfl)
        · -- thing 0
          first | rfl | exact vecE (by first | rfl | (simp_all; done) | grind) | (simp_all; done)
      · -- s24 False
        have hye := hv19.eq s24
        have hlim := hv19.lim
        refine AO.yldG _ (Yld.move rfl) rfl rfl rfl rfl rfl ?_
        refine AO.callW (wantedG rfl rfl rfl) [0] [0] [0] rfl rfl Tryd.call53 rfl (impl_Decimal_c (by omega) (by omega)) (.own rfl) rfl (fun _ => rfl) ⟨rfl, trivial⟩ rfl (fun _ => rfl) (fun _ => rfl) (fun _ _ => ?_)
        refine AO.yldG _ (Yld.move rfl) rfl rfl rfl rfl rfl ?_
        refine AO.yldG _ (Yld.cmpStr rfl rfl rfl) rfl rfl rfl rfl rfl ?_
        refine AO.yld _ (Yld.pickF rfl rfl) rfl rfl rfl ?_
        refine AO.nil ?_
        refine AC.cond _ rfl (fun c29 => ?_) (fun c29 => ?_)
        · -- c29 True
          have h29 : ¬ Lib.itoa v19 = s := by simpa using c29
          have hno : readDec s = none := by rw [hye, if_neg h29]
          refine AC.seq ?_
          refine AC.region ?_
          refine AO.yld _ (Yld.assign rfl) rfl rfl rfl ?_
          refine AO.yld _ (Yld.assign rfl) rfl rfl rfl ?_
          refine AO.nil ?_
          refine FnE.ret () [0] [0] Tryd.results101 (RVs.cons (RV.tmp rfl) (RVs.cons (RV.tmp rfl) RVs.nil)) rfl rfl rfl ?_ ?_ ⟨⟨_, rfl, ?_⟩, trivial⟩
          · -- holds
            trivial
          · -- value
            first | (rw [hno]; rfl) | (rw [hfin]; rfl)
          · -- thing 0
            first | rfl | exact vecE (by first | rfl | (simp_all; done) | grind) | (simp_all; done)
        · -- c29 False
          have h29 : Lib.itoa v19 = s := by simpa using c29
          have hfin : readDec s = some v19 := by rw [hye, if_pos h29]
          refine AC.skip ?_
          refine AC.seq ?_
          refine AC.region ?_
          refine AO.yld _ (Yld.move rfl) rfl rfl rfl ?_
          refine AO.yld _ (Yld.assign rfl) rfl rfl rfl ?_
          refine AO.yld _ (Yld.assign rfl) rfl rfl rfl ?_
          refine AO.nil ?_
          refine FnE.ret () [0] [0] Tryd.results101 (RVs.cons (RV.tmp rfl) (RVs.cons (RV.tmp rfl) RVs.nil)) rfl rfl rfl ?_ ?_ ⟨⟨_, rfl, ?_⟩, trivial⟩
          · -- holds
            trivial
          · -- value
            first | (rw [hno]; rfl) | (rw [hfin]; rfl)
          · -- thing 0
            first | rfl | exact vecE (by first | rfl | (simp_all; done) | grind) | (simp_all; done)

end Go.Proofs.YtghcdgjbgljipaaDoor
