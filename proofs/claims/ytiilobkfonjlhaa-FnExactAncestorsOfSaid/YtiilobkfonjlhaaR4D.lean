/- Contracts of functions of the program, each by a walk of its text in the calculus V. -/
import Derived.Test.YtiilobkfonjlhaaR4C
import Derived.Test.YtiilobkfonjlhaaD18
set_option linter.all false
set_option linter.unusedSimpArgs false
set_option linter.unnecessarySimpa false
set_option linter.unusedVariables false
namespace Go.Proofs.Ytiilobkfonjlhaa
open Go Go.V

theorem spec_AncestorsOf_c {xs : List Ver} {n : Int} (hg : VersGood xs) :
    FnE (α := Unit) Try.prog 28 [.p (.sl 4 (xs.map encVer)), .p (.v (.int .i64 n))] [] [] (fun _ => True) (fun _ => .tup [.h 0, .p (.v (.int .i64 (ancOf xs n).2))]) (fun _ => [(0, .vec 2 1 ((ancOf xs n).1.map encI))]) := by
  have hn := hg.1
  have hM : (xs.map encVer).length = xs.length := List.length_map ..
  refine FnE.intro Try.func28 rfl Try.ntmps28 rfl rfl (fun w0 F0 η φ w => ?_)
  refine AC.seq ?_
  refine AC.region ?_
  refine AO.yld _ (Yld.assign rfl) rfl rfl rfl ?_
  refine AO.yld _ (Yld.assign rfl) rfl rfl rfl ?_
  refine AO.nil ?_
  refine AC.seq ?_
  refine AC.seq ?_
  refine AC.region ?_
  refine AO.yld _ (Yld.move rfl) rfl rfl rfl ?_
  refine AO.yld _ (Yld.call rfl rfl Try.call66 rfl rfl rfl (spec_l27Ok_c (by assumption)) rfl) rfl rfl rfl ?_
  refine AO.yld _ (Yld.not rfl) rfl rfl rfl ?_
  refine AO.nil ?_
  refine AC.cond _ rfl (fun c8 => ?_) (fun c8 => ?_)
  · -- c8 True
    have hnk : ¬ okVers xs = true := by simpa using c8
    refine AC.seq ?_
    refine AC.region ?_
    refine AO.yld _ (Yld.assign rfl) rfl rfl rfl ?_
    refine AO.yld _ (Yld.assign rfl) rfl rfl rfl ?_
    refine AO.nil ?_
    refine AC.nilVec 4 0 2 1 rfl rfl ?_
    refine FnE.ret () [0] [0] Try.results28 (RVs.cons (RV.tmp rfl) (RVs.cons (RV.tmp rfl) RVs.nil)) rfl rfl rfl ?_ ?_ ⟨⟨_, rfl, ?_⟩, trivial⟩
    · -- holds
      trivial
    · -- value
      refine tupE ?_; unfold ancOf; first | rw [if_pos hok, if_pos hin] | rw [if_pos hok, if_neg hno] | rw [if_neg hnk]
    · -- thing 0
      refine vecE ?_; unfold ancOf; first | (rw [if_pos hok, if_pos hin]; done) | (rw [if_pos hok, if_neg hno]; rfl) | (rw [if_neg hnk]; rfl)
  · -- c8 False
    have hok : okVers xs = true := by simpa using c8
    refine AC.skip ?_
    refine AC.seq ?_
    refine AC.seq ?_
    refine AC.region ?_
    refine AO.yld _ (Yld.move rfl) rfl rfl rfl ?_
    refine AO.yld _ (Yld.move rfl) rfl rfl rfl ?_
    refine AO.yld _ (Yld.call rfl rfl Try.call67 rfl rfl rfl (spec_l27Number_c (by assumption)) rfl) rfl rfl rfl ?_
    refine AO.yld _ (Yld.not rfl) rfl rfl rfl ?_
    refine AO.nil ?_
    refine AC.cond _ rfl (fun c12 => ?_) (fun c12 => ?_)
    · -- c12 True
      have hno : ¬ inVers xs n = true := by (try simp only [hM] at *); first | (simpa using c12) | (have h9 := c12; simp [inVers] at h9 ⊢; omega)
      refine AC.seq ?_
      refine AC.region ?_
      refine AO.yld _ (Yld.assign rfl) rfl rfl rfl ?_
      refine AO.yld _ (Yld.assign rfl) rfl rfl rfl ?_
      refine AO.nil ?_
      refine AC.nilVec 4 0 2 1 rfl rfl ?_
      refine FnE.ret () [0] [0] Try.results28 (RVs.cons (RV.tmp rfl) (RVs.cons (RV.tmp rfl) RVs.nil)) rfl rfl rfl ?_ ?_ ⟨⟨_, rfl, ?_⟩, trivial⟩
      · -- holds
        trivial
      · -- value
        refine tupE ?_; unfold ancOf; first | rw [if_pos hok, if_pos hin] | rw [if_pos hok, if_neg hno] | rw [if_neg hnk]
      · -- thing 0
        refine vecE ?_; unfold ancOf; first | (rw [if_pos hok, if_pos hin]; done) | (rw [if_pos hok, if_neg hno]; rfl) | (rw [if_neg hnk]; rfl)
    · -- c12 False
      have hin : inVers xs n = true := by (try simp only [hM] at *); first | (simpa using c12) | (have h9 := c12; simp [inVers] at h9 ⊢; exact h9)
      have hlim : 1 ≤ n ∧ n ≤ xs.length := by simpa [inVers] using hin
      refine AC.skip ?_
      refine AC.seq ?_
      refine AC.region ?_
      refine AO.yld _ (Yld.move rfl) rfl rfl rfl ?_
      refine AO.yld _ (Yld.move rfl) rfl rfl rfl ?_
      refine AO.callW (wantedN rfl) [0] [] [0] rfl rfl Try.call87 rfl (spec_l27Above_c (by assumption) (by assumption) (by omega) (by omega)) (.flat (.view rfl rfl (.view rfl rfl .nil)) (fun _ => by simp [AV.Flat, AV.FlatL, PV.Flat, PV.FlatL]) (fun _ => ⟨flat_map flatI _, trivial⟩)) rfl (fun _ => rfl) trivial rfl (fun _ => rfl) (fun _ => rfl) (fun _ _ => ?_)
      refine AO.yld _ (Yld.assign rfl) rfl rfl rfl ?_
      refine AO.yld _ (Yld.assign rfl) rfl rfl rfl ?_
      refine AO.nil ?_
      refine FnE.ret () [0] [0] Try.results28 (RVs.cons (RV.tmp rfl) (RVs.cons (RV.tmp rfl) RVs.nil)) rfl rfl rfl ?_ ?_ ⟨⟨_, rfl, ?_⟩, trivial⟩
      · -- holds
        trivial
      · -- value
        refine tupE ?_; unfold ancOf; first | rw [if_pos hok, if_pos hin] | rw [if_pos hok, if_neg hno] | rw [if_neg hnk]
      · -- thing 0
        refine vecE ?_; unfold ancOf; first | (rw [if_pos hok, if_pos hin]; done) | (rw [if_pos hok, if_neg hno]; rfl) | (rw [if_neg hnk]; rfl)

theorem impl_AncestorsOf_c {xs : List Ver} {n : Int} (hg : VersGood xs) :
    FnE (α := Unit) Try.prog 29 [.p (.sl 4 (xs.map encVer)), .p (.v (.int .i64 n))] [] [] (fun _ => True) (fun _ => .tup [.h 0, .p (.v (.int .i64 (ancOf xs n).2))]) (fun _ => [(0, .cust (tailC 2 (ancOf xs n).1 ((ancOf xs n).1.map encI) rfl))]) := by
  have hn := hg.1
  have hM : (xs.map encVer).length = xs.length := List.length_map ..
  refine FnE.intro Try.func29 rfl Try.ntmps29 rfl rfl (fun w0 F0 η φ w => ?_)
  refine AC.seq ?_
  refine AC.region ?_
  refine AO.yld _ (Yld.assign rfl) rfl rfl rfl ?_
  refine AO.yld _ (Yld.assign rfl) rfl rfl rfl ?_
  refine AO.nil ?_
  refine AC.seq ?_
  refine AC.seq ?_
  refine AC.region ?_
  refine AO.yld _ (Yld.move rfl) rfl rfl rfl ?_
  refine AO.yld _ (Yld.call rfl rfl Try.call70 rfl rfl rfl (impl_ValidHistory_c (by assumption)) rfl) rfl rfl rfl ?_
  refine AO.yld _ (Yld.not rfl) rfl rfl rfl ?_
  refine AO.nil ?_
  refine AC.cond _ rfl (fun c8 => ?_) (fun c8 => ?_)
  · -- c8 True
    have hnk : ¬ okVers xs = true := by simpa using c8
    refine AC.seq ?_
    refine AC.region ?_
    refine AO.yld _ (Yld.assign rfl) rfl rfl rfl ?_
    refine AO.yld _ (Yld.assign rfl) rfl rfl rfl ?_
    refine AO.nil ?_
    refine AC.nilVec 4 0 2 1 rfl rfl ?_
    refine AC.vecTail 0 rfl ?_
    refine FnE.ret () [0] [0] Try.results29 (RVs.cons (RV.tmp rfl) (RVs.cons (RV.tmp rfl) RVs.nil)) rfl rfl rfl ?_ ?_ ⟨⟨_, rfl, ?_⟩, trivial⟩
    · -- holds
      trivial
    · -- value
      refine tupE ?_; unfold ancOf; first | rw [if_pos hok, if_pos hin] | rw [if_pos hok, if_neg hno] | rw [if_neg hnk]
    · -- thing 0
      exact tailE (by unfold ancOf; first | rw [if_pos hok, if_pos hin] | rw [if_pos hok, if_neg hno] | rw [if_neg hnk])
  · -- c8 False
    have hok : okVers xs = true := by simpa using c8
    refine AC.skip ?_
    refine AC.seq ?_
    refine AC.seq ?_
    refine AC.region ?_
    refine AO.yld _ (Yld.move rfl) rfl rfl rfl ?_
    refine AO.yld _ (Yld.move rfl) rfl rfl rfl ?_
    refine AO.yld _ (Yld.len Try.underlying26 rfl rfl) rfl rfl rfl ?_
    refine AO.yld _ (Yld.call rfl rfl Try.call71 rfl rfl rfl (impl_within_c) rfl) rfl rfl rfl ?_
    refine AO.yld _ (Yld.not rfl) rfl rfl rfl ?_
    refine AO.nil ?_
    refine AC.cond _ rfl (fun c13 => ?_) (fun c13 => ?_)
    · -- c13 True
      have hno : ¬ inVers xs n = true := by (try simp only [hM] at *); first | (simpa using c13) | (have h9 := c13; simp [inVers] at h9 ⊢; omega)
      refine AC.seq ?_
      refine AC.region ?_
      refine AO.yld _ (Yld.assign rfl) rfl rfl rfl ?_
      refine AO.yld _ (Yld.assign rfl) rfl rfl rfl ?_
      refine AO.nil ?_
      refine AC.nilVec 4 0 2 1 rfl rfl ?_
      refine AC.vecTail 0 rfl ?_
      refine FnE.ret () [0] [0] Try.results29 (RVs.cons (RV.tmp rfl) (RVs.cons (RV.tmp rfl) RVs.nil)) rfl rfl rfl ?_ ?_ ⟨⟨_, rfl, ?_⟩, trivial⟩
      · -- holds
        trivial
      · -- value
        refine tupE ?_; unfold ancOf; first | rw [if_pos hok, if_pos hin] | rw [if_pos hok, if_neg hno] | rw [if_neg hnk]
      · -- thing 0
        exact tailE (by unfold ancOf; first | rw [if_pos hok, if_pos hin] | rw [if_pos hok, if_neg hno] | rw [if_neg hnk])
    · -- c13 False
      have hin : inVers xs n = true := by (try simp only [hM] at *); first | (simpa using c13) | (have h9 := c13; simp [inVers] at h9 ⊢; exact h9)
      have hlim : 1 ≤ n ∧ n ≤ xs.length := by simpa [inVers] using hin
      refine AC.skip ?_
      refine AC.seq ?_
      refine AC.region ?_
      refine AO.yld _ (Yld.move rfl) rfl rfl rfl ?_
      refine AO.yld _ (Yld.move rfl) rfl rfl rfl ?_
      refine AO.callW (wantedN rfl) [0] [] [0] rfl rfl Try.call88 rfl (impl_lineOf_c (by assumption) (by assumption) (by omega) (by omega)) (.flat (.view rfl rfl (.view rfl rfl .nil)) (fun _ => by simp [AV.Flat, AV.FlatL, PV.Flat, PV.FlatL]) (fun _ => ⟨flat_map flatI _, trivial⟩)) rfl (fun _ => rfl) trivial rfl (fun _ => rfl) (fun _ => rfl) (fun _ _ => ?_)
      refine AO.tail 0 (n0 := n) (xs := (line xs n).tail) rfl Try.underlying31 Try.sizeOf2 rfl rfl (by rw [line_pos hok (n := n) (by omega)]; rfl) (.some rfl rfl) rfl ?_
      refine AO.yld _ (Yld.assign rfl) rfl rfl rfl ?_
      refine AO.yld _ (Yld.assign rfl) rfl rfl rfl ?_
      refine AO.nil ?_
      refine FnE.ret () [0] [0] Try.results29 (RVs.cons (RV.tmp rfl) (RVs.cons (RV.tmp rfl) RVs.nil)) rfl rfl rfl ?_ ?_ ⟨⟨_, rfl, ?_⟩, trivial⟩
      · -- holds
        trivial
      · -- value
        refine tupE ?_; unfold ancOf; first | rw [if_pos hok, if_pos hin] | rw [if_pos hok, if_neg hno] | rw [if_neg hnk]
      · -- thing 0
        exact tailE (by unfold ancOf; first | rw [if_pos hok, if_pos hin] | rw [if_pos hok, if_neg hno] | rw [if_neg hnk])

theorem laws_markInt64S_t {xs : List Int} {k0 : Int} (h0 : 0 ≤ k0) (h1 : k0 ≤ 10000000000000) (hn : xs.length ≤ 1048576) :
    FnE (α := Unit) Try.prog 26 [.h 0, .p (.v (.int .i64 k0))] [(0, .cust (tailC 2 xs (xs.map encI) rfl))] [0] (fun _ => True) (fun _ => .p (.v (.int .i64 (k0 + ((xs.length * 1 : Nat) : Int))))) (fun _ => [(0, .cust (tailC 2 (tmk k0 xs xs.length) (mkAll [false] k0 xs.length) tmk_end))]) := by
  refine FnE.intro Try.func26 rfl Try.ntmps26 rfl rfl (fun w0 F0 η φ w => ?_)
  refine AC.seq ?_
  refine AC.region ?_
  refine AO.yld _ (Yld.assign rfl) rfl rfl rfl ?_
  refine AO.nil ?_
  refine AC.seq ?_
  refine AC.seq ?_
  refine AC.region ?_
  refine AO.yld _ (Yld.assign rfl) rfl rfl rfl ?_
  refine AO.nil ?_
  refine AC.block ?_
  refine AC.tailOpen 0 rfl (fun a c ha => ?_)
  refine AC.loopC [(0, _), (4, _)] [(900, _)] (fun (k : Nat) => [(5, .p (.v (.int .i64 (k : Int)))), (1, .p (.v (.int .i64 (k0 + ((k * 1 : Nat) : Int)))))]) (fun (k : Nat) => [(0, .cust (tailAt (.slice a xs.length c) 2 (tmk k0 xs k)))]) (fun (k : Nat) => k ≤ xs.length) (fun (k : Nat) => xs.length - k) 0 ⟨rfl, rfl, trivial⟩ ⟨rfl, trivial⟩ ⟨rfl, by show some (AV.p (PV.v (Value.int IntKind.i64 _))) = _; simp, trivial⟩ ⟨by rw [tmk_zero]; rfl, trivial⟩ ?_ (fun k hJ => ?_)
  · exact Nat.zero_le _
  · -- round
    refine AC.seq ?_
    refine AC.seq ?_
    refine AC.region ?_
    refine AO.yld _ (Yld.move rfl) rfl rfl rfl ?_
    refine AO.yld _ (Yld.move rfl) rfl rfl rfl ?_
    refine AO.yld _ (Yld.lenC Try.underlying31 rfl) rfl rfl rfl ?_
    refine AO.yld _ (Yld.int rfl rfl rfl) rfl rfl rfl ?_
    refine AO.nil ?_
    refine AC.cond _ rfl (fun c9 => ?_) (fun c9 => ?_)
    · -- c9 True
      have hk : k < xs.length := by simpa using c9
      obtain ⟨b, rfl⟩ := ha (by intro e; rw [e] at hk; simp at hk)
      refine AC.skip ?_
      refine AC.seq ?_
      refine AC.block ?_
      refine AC.seq ?_
      refine AC.region ?_
      refine AO.yld _ (Yld.move rfl) rfl rfl rfl ?_
      refine AO.yld _ (Yld.move rfl) rfl rfl rfl ?_
      refine AO.yld _ (Yld.move rfl) rfl rfl rfl ?_
      refine AO.yld _ (Yld.idxC Try.underlying31 Try.sizeOf2 rfl rfl rfl hk) rfl rfl rfl ?_
      refine AO.storeC 0 Try.sizeOf2 rfl rfl rfl (by rw [tmk_len (by omega)]; exact hk) ?_
      refine AO.nil ?_
      refine AC.region ?_
      refine AO.yld _ (Yld.move rfl) rfl rfl rfl ?_
      refine AO.yld _ (Yld.add rfl rfl (by omega) (by omega)) rfl rfl rfl ?_
      refine AO.yld _ (Yld.assign rfl) rfl rfl rfl ?_
      refine AO.nil ?_
      refine AC.mark ?_
      refine AC.region ?_
      refine AO.yld _ (Yld.move rfl) rfl rfl rfl ?_
      refine AO.yld _ (Yld.add rfl rfl (by omega) (by omega)) rfl rfl rfl ?_
      refine AO.yld _ (Yld.assign rfl) rfl rfl rfl ?_
      refine AO.nil ?_
      refine AC.back ⟨k + 1, ?_, ?_, ⟨?_, ?_, trivial⟩, ⟨?_, trivial⟩, ⟨rfl, rfl, trivial⟩, ⟨rfl, trivial⟩⟩
      · exact hk
      · omega
      · rfl
      · show some (AV.p (PV.v (Value.int IntKind.i64 _))) = _; congr 4; omega
      · rw [← tmk_set hk]; rfl
    · -- c9 False
      obtain rfl : k = xs.length := by have h := c9; simp at h; omega
      refine AC.exit rfl ?_
      refine AC.seq ?_
      refine AC.region ?_
      refine AO.yld _ (Yld.move rfl) rfl rfl rfl ?_
      refine AO.yld _ (Yld.assign rfl) rfl rfl rfl ?_
      refine AO.nil ?_
      refine AC.tailClose 0 tmk_end rfl ?_
      refine FnE.ret () [0] [0] Try.results26 (RVs.cons (RV.tmp rfl) RVs.nil) rfl rfl rfl ?_ ?_ ⟨⟨_, rfl, ?_⟩, trivial⟩
      · -- holds
        trivial
      · -- value
        rfl
      · -- thing 0
        rfl

end Go.Proofs.Ytiilobkfonjlhaa
