/- Contracts of functions of the program, each by a walk of its text in the calculus V. -/
import Derived.Test.YtjmicabmkipomaaC3
import Derived.Test.YtjmicabmkipomaaV12
set_option linter.all false
set_option linter.unusedSimpArgs false
set_option linter.unusedVariables false
namespace Go.Proofs.Ytjmicabmkipomaa
open Go Go.V

theorem impl_driftPerDay_c {xs : List Session} (hn : xs.length ≤ 1048576) (hok : okSessions xs = true) :
    Pure Try.prog 106 [.sl 4 (xs.map encSession)] (.v (.int .i64 (driftTo xs xs.length))) := by
  have hlen : 1 ≤ xs.length := by unfold okSessions at hok; grind
  have hoks : okB okSession geDay xs = true := by unfold okSessions at hok; grind
  refine Pure.intro Try.func106 rfl Try.ntmps106 rfl rfl (fun w => ?_)
  refine AC.seq ?_
  refine AC.region ?_
  refine AO.yld _ (Yld.assign rfl) rfl rfl rfl ?_
  refine AO.nil ?_
  refine AC.seq ?_
  refine AC.region ?_
  refine AO.yld _ (Yld.assign rfl) rfl rfl rfl ?_
  refine AO.nil ?_
  refine AC.seq ?_
  refine AC.seq ?_
  refine AC.region ?_
  refine AO.yld _ (Yld.assign rfl) rfl rfl rfl ?_
  refine AO.nil ?_
  refine AC.block ?_
  refine AC.loopC [(0, _), (2, _)] [] (fun (k : Nat) => [(4, .p (.v (.int .i64 (k : Int)))), (3, .p (.v (.int .i64 (driftTo xs k))))]) (fun (k : Nat) => []) (fun (k : Nat) => 1 ≤ k ∧ k ≤ xs.length) (fun (k : Nat) => xs.length - k) 1 ⟨rfl, rfl, trivial⟩ trivial ⟨rfl, by rw [driftTo_one]; rfl, trivial⟩ trivial ?_ (fun k hJ => ?_)
  · exact ⟨by omega, hlen⟩
  · -- round
    refine AC.seq ?_
    refine AC.seq ?_
    refine AC.region ?_
    refine AO.yld _ (Yld.move rfl) rfl rfl rfl ?_
    refine AO.yld _ (Yld.move rfl) rfl rfl rfl ?_
    refine AO.yld _ (Yld.len Try.underlying47 rfl rfl) rfl rfl rfl ?_
    refine AO.yld _ (Yld.int rfl rfl rfl) rfl rfl rfl ?_
    refine AO.nil ?_
    refine AC.cond _ rfl (fun c10 => ?_) (fun c10 => ?_)
    · -- c10 True
      have hk := lt_of_decM c10
      obtain ⟨x, hx⟩ := get_some hk
      have hrow := map_row (enc := encSession) hx
      obtain ⟨y, hy⟩ := get_some (xs := xs) (k := k - 1) (by omega)
      have hrow2 := map_row (enc := encSession) hy
      have hl3 := session_lim (okB_at hoks hx)
      have hl4 := session_lim (okB_at hoks hy)
      have hl5 : y.day < x.day := by have h := okB_next hoks hx (by omega) hy; simpa [geDay] using h
      have hl6 := absI_lim (x.turn - y.turn)
      have hl7 := absI_lim (x.lift - y.lift)
      refine AC.skip ?_
      refine AC.seq ?_
      refine AC.block ?_
      refine AC.seq ?_
      apply AC.drawAny ⟨[(0, _), (2, _), (3, _), (4, _), (5, _), (6, _), (7, _), (8, _), (9, _), (10, _), (13, _), (14, _), (15, _), (16, _), (17, _), (18, _), (19, _), (20, _), (21, _)], [(0, _), (1, _)]⟩ (by kernel_rfl)
      · -- orders
        refine AN.take 0 rfl (by kernel_rfl) (by kernel_rfl) (by kernel_rfl) rfl rfl rfl (YldA.move rfl) ?_
        refine AN.take 1 rfl (by kernel_rfl) (by kernel_rfl) (by kernel_rfl) rfl rfl rfl (YldA.move rfl) ?_
        refine AN.take 2 rfl (by kernel_rfl) (by kernel_rfl) (by kernel_rfl) rfl rfl rfl (YldA.sub rfl rfl (by omega) (by omega)) ?_
        refine AN.take 3 rfl (by kernel_rfl) (by kernel_rfl) (by kernel_rfl) rfl rfl rfl (YldA.indexSl Try.underlying47 Try.sizeOf109 rfl rfl hrow2 (by omega)) ?_
        refine AN.take 5 rfl (by kernel_rfl) (by kernel_rfl) (by kernel_rfl) rfl rfl rfl (YldA.move rfl) ?_
        refine AN.take 6 rfl (by kernel_rfl) (by kernel_rfl) (by kernel_rfl) rfl rfl rfl (YldA.move rfl) ?_
        refine AN.take 7 rfl (by kernel_rfl) (by kernel_rfl) (by kernel_rfl) rfl rfl rfl (YldA.indexSl Try.underlying47 Try.sizeOf109 rfl rfl hrow rfl) ?_
        refine AN.all (rs := [4, 8, 9, 10]) (by kernel_rfl) rfl ⟨?_, ?_, ?_, ?_, trivial⟩
        · refine Stp.eff rfl rfl (Eff.yld (Yld.loadAgg Try.isAgg109 Try.sizeOf109 rfl rfl rfl rfl) rfl rfl) ?_
          refine AN.all (rs := [8, 9, 10]) (by kernel_rfl) rfl ⟨?_, ?_, ?_, trivial⟩
          · refine Stp.eff rfl rfl (Eff.yld (Yld.loadAgg Try.isAgg109 Try.sizeOf109 rfl rfl rfl rfl) rfl rfl) ?_
            refine AN.all (rs := [9, 10]) (by kernel_rfl) rfl ⟨?_, ?_, trivial⟩
            · refine Stp.eff rfl rfl (Eff.alloc 0 Try.zeroValue109 rfl rfl rfl) ?_
              refine AN.all (rs := [10]) (by kernel_rfl) rfl ⟨?_, trivial⟩
              refine Stp.eff rfl rfl (Eff.alloc 1 Try.zeroValue109 rfl rfl rfl) ?_
              refine AN.all (rs := [11]) (by kernel_rfl) rfl ⟨?_, trivial⟩
              refine Stp.eff rfl rfl (Eff.store Try.sizeOf109 rfl rfl rfl rfl rfl rfl) ?_
              refine AN.all (rs := [12]) (by kernel_rfl) rfl ⟨?_, trivial⟩
              refine Stp.eff rfl rfl (Eff.store Try.sizeOf109 rfl rfl rfl rfl rfl rfl) ?_
              exact AN.done (by kernel_rfl) (Le.intro ⟨rfl, rfl, rfl, rfl, rfl, rfl, rfl, rfl, rfl, rfl, rfl, rfl, rfl, rfl, rfl, rfl, rfl, rfl, rfl, trivial⟩ ⟨rfl, rfl, trivial⟩)
            · refine Stp.eff rfl rfl (Eff.alloc 1 Try.zeroValue109 rfl rfl rfl) ?_
              refine AN.all (rs := [9]) (by kernel_rfl) rfl ⟨?_, trivial⟩
              refine Stp.eff rfl rfl (Eff.alloc 0 Try.zeroValue109 rfl rfl rfl) ?_
              refine AN.all (rs := [11]) (by kernel_rfl) rfl ⟨?_, trivial⟩
              refine Stp.eff rfl rfl (Eff.store Try.sizeOf109 rfl rfl rfl rfl rfl rfl) ?_
              refine AN.all (rs := [12]) (by kernel_rfl) rfl ⟨?_, trivial⟩
              refine Stp.eff rfl rfl (Eff.store Try.sizeOf109 rfl rfl rfl rfl rfl rfl) ?_
              exact AN.done (by kernel_rfl) (Le.intro ⟨rfl, rfl, rfl, rfl, rfl, rfl, rfl, rfl, rfl, rfl, rfl, rfl, rfl, rfl, rfl, rfl, rfl, rfl, rfl, trivial⟩ ⟨rfl, rfl, trivial⟩)
          · refine Stp.eff rfl rfl (Eff.alloc 0 Try.zeroValue109 rfl rfl rfl) ?_
            refine AN.all (rs := [8, 10]) (by kernel_rfl) rfl ⟨?_, ?_, trivial⟩
            · refine Stp.eff rfl rfl (Eff.yld (Yld.loadAgg Try.isAgg109 Try.sizeOf109 rfl rfl rfl rfl) rfl rfl) ?_
              refine AN.all (rs := [10]) (by kernel_rfl) rfl ⟨?_, trivial⟩
              refine Stp.eff rfl rfl (Eff.alloc 1 Try.zeroValue109 rfl rfl rfl) ?_
              refine AN.all (rs := [11]) (by kernel_rfl) rfl ⟨?_, trivial⟩
              refine Stp.eff rfl rfl (Eff.store Try.sizeOf109 rfl rfl rfl rfl rfl rfl) ?_
              refine AN.all (rs := [12]) (by kernel_rfl) rfl ⟨?_, trivial⟩
              refine Stp.eff rfl rfl (Eff.store Try.sizeOf109 rfl rfl rfl rfl rfl rfl) ?_
              exact AN.done (by kernel_rfl) (Le.intro ⟨rfl, rfl, rfl, rfl, rfl, rfl, rfl, rfl, rfl, rfl, rfl, rfl, rfl, rfl, rfl, rfl, rfl, rfl, rfl, trivial⟩ ⟨rfl, rfl, trivial⟩)
            · refine Stp.eff rfl rfl (Eff.alloc 1 Try.zeroValue109 rfl rfl rfl) ?_
              refine AN.all (rs := [8, 11]) (by kernel_rfl) rfl ⟨?_, ?_, trivial⟩
              · refine Stp.eff rfl rfl (Eff.yld (Yld.loadAgg Try.isAgg109 Try.sizeOf109 rfl rfl rfl rfl) rfl rfl) ?_
                refine AN.all (rs := [11]) (by kernel_rfl) rfl ⟨?_, trivial⟩
                refine Stp.eff rfl rfl (Eff.store Try.sizeOf109 rfl rfl rfl rfl rfl rfl) ?_
                refine AN.all (rs := [12]) (by kernel_rfl) rfl ⟨?_, trivial⟩
                refine Stp.eff rfl rfl (Eff.store Try.sizeOf109 rfl rfl rfl rfl rfl rfl) ?_
                exact AN.done (by kernel_rfl) (Le.intro ⟨rfl, rfl, rfl, rfl, rfl, rfl, rfl, rfl, rfl, rfl, rfl, rfl, rfl, rfl, rfl, rfl, rfl, rfl, rfl, trivial⟩ ⟨rfl, rfl, trivial⟩)
              · refine Stp.eff rfl rfl (Eff.store Try.sizeOf109 rfl rfl rfl rfl rfl rfl) ?_
                refine AN.all (rs := [8]) (by kernel_rfl) rfl ⟨?_, trivial⟩
                refine Stp.eff rfl rfl (Eff.yld (Yld.loadAgg Try.isAgg109 Try.sizeOf109 rfl rfl rfl rfl) rfl rfl) ?_
                refine AN.all (rs := [12]) (by kernel_rfl) rfl ⟨?_, trivial⟩
                refine Stp.eff rfl rfl (Eff.store Try.sizeOf109 rfl rfl rfl rfl rfl rfl) ?_
                exact AN.done (by kernel_rfl) (Le.intro ⟨rfl, rfl, rfl, rfl, rfl, rfl, rfl, rfl, rfl, rfl, rfl, rfl, rfl, rfl, rfl, rfl, rfl, rfl, rfl, trivial⟩ ⟨rfl, rfl, trivial⟩)
          · refine Stp.eff rfl rfl (Eff.alloc 1 Try.zeroValue109 rfl rfl rfl) ?_
            refine AN.all (rs := [8, 9]) (by kernel_rfl) rfl ⟨?_, ?_, trivial⟩
            · refine Stp.eff rfl rfl (Eff.yld (Yld.loadAgg Try.isAgg109 Try.sizeOf109 rfl rfl rfl rfl) rfl rfl) ?_
              refine AN.all (rs := [9]) (by kernel_rfl) rfl ⟨?_, trivial⟩
              refine Stp.eff rfl rfl (Eff.alloc 0 Try.zeroValue109 rfl rfl rfl) ?_
              refine AN.all (rs := [11]) (by kernel_rfl) rfl ⟨?_, trivial⟩
              refine Stp.eff rfl rfl (Eff.store Try.sizeOf109 rfl rfl rfl rfl rfl rfl) ?_
              refine AN.all (rs := [12]) (by kernel_rfl) rfl ⟨?_, trivial⟩
              refine Stp.eff rfl rfl (Eff.store Try.sizeOf109 rfl rfl rfl rfl rfl rfl) ?_
              exact AN.done (by kernel_rfl) (Le.intro ⟨rfl, rfl, rfl, rfl, rfl, rfl, rfl, rfl, rfl, rfl, rfl, rfl, rfl, rfl, rfl, rfl, rfl, rfl, rfl, trivial⟩ ⟨rfl, rfl, trivial⟩)
            · refine Stp.eff rfl rfl (Eff.alloc 0 Try.zeroValue109 rfl rfl rfl) ?_
              refine AN.all (rs := [8, 11]) (by kernel_rfl) rfl ⟨?_, ?_, trivial⟩
              · refine Stp.eff rfl rfl (Eff.yld (Yld.loadAgg Try.isAgg109 Try.sizeOf109 rfl rfl rfl rfl) rfl rfl) ?_
                refine AN.all (rs := [11]) (by kernel_rfl) rfl ⟨?_, trivial⟩
                refine Stp.eff rfl rfl (Eff.store Try.sizeOf109 rfl rfl rfl rfl rfl rfl) ?_
                refine AN.all (rs := [12]) (by kernel_rfl) rfl ⟨?_, trivial⟩
                refine Stp.eff rfl rfl (Eff.store Try.sizeOf109 rfl rfl rfl rfl rfl rfl) ?_
                exact AN.done (by kernel_rfl) (Le.intro ⟨rfl, rfl, rfl, rfl, rfl, rfl, rfl, rfl, rfl, rfl, rfl, rfl, rfl, rfl, rfl, rfl, rfl, rfl, rfl, trivial⟩ ⟨rfl, rfl, trivial⟩)
              · refine Stp.eff rfl rfl (Eff.store Try.sizeOf109 rfl rfl rfl rfl rfl rfl) ?_
                refine AN.all (rs := [8]) (by kernel_rfl) rfl ⟨?_, trivial⟩
                refine Stp.eff rfl rfl (Eff.yld (Yld.loadAgg Try.isAgg109 Try.sizeOf109 rfl rfl rfl rfl) rfl rfl) ?_
                refine AN.all (rs := [12]) (by kernel_rfl) rfl ⟨?_, trivial⟩
                refine Stp.eff rfl rfl (Eff.store Try.sizeOf109 rfl rfl rfl rfl rfl rfl) ?_
                exact AN.done (by kernel_rfl) (Le.intro ⟨rfl, rfl, rfl, rfl, rfl, rfl, rfl, rfl, rfl, rfl, rfl, rfl, rfl, rfl, rfl, rfl, rfl, rfl, rfl, trivial⟩ ⟨rfl, rfl, trivial⟩)
        · refine Stp.eff rfl rfl (Eff.yld (Yld.loadAgg Try.isAgg109 Try.sizeOf109 rfl rfl rfl rfl) rfl rfl) ?_
          refine AN.all (rs := [4, 9, 10]) (by kernel_rfl) rfl ⟨?_, ?_, ?_, trivial⟩
          · refine Stp.eff rfl rfl (Eff.yld (Yld.loadAgg Try.isAgg109 Try.sizeOf109 rfl rfl rfl rfl) rfl rfl) ?_
            refine AN.all (rs := [9, 10]) (by kernel_rfl) rfl ⟨?_, ?_, trivial⟩
            · refine Stp.eff rfl rfl (Eff.alloc 0 Try.zeroValue109 rfl rfl rfl) ?_
              refine AN.all (rs := [10]) (by kernel_rfl) rfl ⟨?_, trivial⟩
              refine Stp.eff rfl rfl (Eff.alloc 1 Try.zeroValue109 rfl rfl rfl) ?_
              refine AN.all (rs := [11]) (by kernel_rfl) rfl ⟨?_, trivial⟩
              refine Stp.eff rfl rfl (Eff.store Try.sizeOf109 rfl rfl rfl rfl rfl rfl) ?_
              refine AN.all (rs := [12]) (by kernel_rfl) rfl ⟨?_, trivial⟩
              refine Stp.eff rfl rfl (Eff.store Try.sizeOf109 rfl rfl rfl rfl rfl rfl) ?_
              exact AN.done (by kernel_rfl) (Le.intro ⟨rfl, rfl, rfl, rfl, rfl, rfl, rfl, rfl, rfl, rfl, rfl, rfl, rfl, rfl, rfl, rfl, rfl, rfl, rfl, trivial⟩ ⟨rfl, rfl, trivial⟩)
            · refine Stp.eff rfl rfl (Eff.alloc 1 Try.zeroValue109 rfl rfl rfl) ?_
              refine AN.all (rs := [9]) (by kernel_rfl) rfl ⟨?_, trivial⟩
              refine Stp.eff rfl rfl (Eff.alloc 0 Try.zeroValue109 rfl rfl rfl) ?_
              refine AN.all (rs := [11]) (by kernel_rfl) rfl ⟨?_, trivial⟩
              refine Stp.eff rfl rfl (Eff.store Try.sizeOf109 rfl rfl rfl rfl rfl rfl) ?_
              refine AN.all (rs := [12]) (by kernel_rfl) rfl ⟨?_, trivial⟩
              refine Stp.eff rfl rfl (Eff.store Try.sizeOf109 rfl rfl rfl rfl rfl rfl) ?_
              exact AN.done (by kernel_rfl) (Le.intro ⟨rfl, rfl, rfl, rfl, rfl, rfl, rfl, rfl, rfl, rfl, rfl, rfl, rfl, rfl, rfl, rfl, rfl, rfl, rfl, trivial⟩ ⟨rfl, rfl, trivial⟩)
          · refine Stp.eff rfl rfl (Eff.alloc 0 Try.zeroValue109 rfl rfl rfl) ?_
            refine AN.all (rs := [4, 10]) (by kernel_rfl) rfl ⟨?_, ?_, trivial⟩
            · refine Stp.eff rfl rfl (Eff.yld (Yld.loadAgg Try.isAgg109 Try.sizeOf109 rfl rfl rfl rfl) rfl rfl) ?_
              refine AN.all (rs := [10]) (by kernel_rfl) rfl ⟨?_, trivial⟩
              refine Stp.eff rfl rfl (Eff.alloc 1 Try.zeroValue109 rfl rfl rfl) ?_
              refine AN.all (rs := [11]) (by kernel_rfl) rfl ⟨?_, trivial⟩
              refine Stp.eff rfl rfl (Eff.store Try.sizeOf109 rfl rfl rfl rfl rfl rfl) ?_
              refine AN.all (rs := [12]) (by kernel_rfl) rfl ⟨?_, trivial⟩
              refine Stp.eff rfl rfl (Eff.store Try.sizeOf109 rfl rfl rfl rfl rfl rfl) ?_
              exact AN.done (by kernel_rfl) (Le.intro ⟨rfl, rfl, rfl, rfl, rfl, rfl, rfl, rfl, rfl, rfl, rfl, rfl, rfl, rfl, rfl, rfl, rfl, rfl, rfl, trivial⟩ ⟨rfl, rfl, trivial⟩)
            · refine Stp.eff rfl rfl (Eff.alloc 1 Try.zeroValue109 rfl rfl rfl) ?_
              refine AN.all (rs := [4]) (by kernel_rfl) rfl ⟨?_, trivial⟩
              refine Stp.eff rfl rfl (Eff.yld (Yld.loadAgg Try.isAgg109 Try.sizeOf109 rfl rfl rfl rfl) rfl rfl) ?_
              refine AN.all (rs := [11]) (by kernel_rfl) rfl ⟨?_, trivial⟩
              refine Stp.eff rfl rfl (Eff.store Try.sizeOf109 rfl rfl rfl rfl rfl rfl) ?_
              refine AN.all (rs := [12]) (by kernel_rfl) rfl ⟨?_, trivial⟩
              refine Stp.eff rfl rfl (Eff.store Try.sizeOf109 rfl rfl rfl rfl rfl rfl) ?_
              exact AN.done (by kernel_rfl) (Le.intro ⟨rfl, rfl, rfl, rfl, rfl, rfl, rfl, rfl, rfl, rfl, rfl, rfl, rfl, rfl, rfl, rfl, rfl, rfl, rfl, trivial⟩ ⟨rfl, rfl, trivial⟩)
          · refine Stp.eff rfl rfl (Eff.alloc 1 Try.zeroValue109 rfl rfl rfl) ?_
            refine AN.all (rs := [4, 9]) (by kernel_rfl) rfl ⟨?_, ?_, trivial⟩
            · refine Stp.eff rfl rfl (Eff.yld (Yld.loadAgg Try.isAgg109 Try.sizeOf109 rfl rfl rfl rfl) rfl rfl) ?_
              refine AN.all (rs := [9]) (by kernel_rfl) rfl ⟨?_, trivial⟩
              refine Stp.eff rfl rfl (Eff.alloc 0 Try.zeroValue109 rfl rfl rfl) ?_
              refine AN.all (rs := [11]) (by kernel_rfl) rfl ⟨?_, trivial⟩
              refine Stp.eff rfl rfl (Eff.store Try.sizeOf109 rfl rfl rfl rfl rfl rfl) ?_
              refine AN.all (rs := [12]) (by kernel_rfl) rfl ⟨?_, trivial⟩
              refine Stp.eff rfl rfl (Eff.store Try.sizeOf109 rfl rfl rfl rfl rfl rfl) ?_
              exact AN.done (by kernel_rfl) (Le.intro ⟨rfl, rfl, rfl, rfl, rfl, rfl, rfl, rfl, rfl, rfl, rfl, rfl, rfl, rfl, rfl, rfl, rfl, rfl, rfl, trivial⟩ ⟨rfl, rfl, trivial⟩)
            · refine Stp.eff rfl rfl (Eff.alloc 0 Try.zeroValue109 rfl rfl rfl) ?_
              refine AN.all (rs := [4]) (by kernel_rfl) rfl ⟨?_, trivial⟩
              refine Stp.eff rfl rfl (Eff.yld (Yld.loadAgg Try.isAgg109 Try.sizeOf109 rfl rfl rfl rfl) rfl rfl) ?_
              refine AN.all (rs := [11]) (by kernel_rfl) rfl ⟨?_, trivial⟩
              refine Stp.eff rfl rfl (Eff.store Try.sizeOf109 rfl rfl rfl rfl rfl rfl) ?_
              refine AN.all (rs := [12]) (by kernel_rfl) rfl ⟨?_, trivial⟩
              refine Stp.eff rfl rfl (Eff.store Try.sizeOf109 rfl rfl rfl rfl rfl rfl) ?_
              exact AN.done (by kernel_rfl) (Le.intro ⟨rfl, rfl, rfl, rfl, rfl, rfl, rfl, rfl, rfl, rfl, rfl, rfl, rfl, rfl, rfl, rfl, rfl, rfl, rfl, trivial⟩ ⟨rfl, rfl, trivial⟩)
        · refine Stp.eff rfl rfl (Eff.alloc 0 Try.zeroValue109 rfl rfl rfl) ?_
          refine AN.all (rs := [4, 8, 10]) (by kernel_rfl) rfl ⟨?_, ?_, ?_, trivial⟩
          · refine Stp.eff rfl rfl (Eff.yld (Yld.loadAgg Try.isAgg109 Try.sizeOf109 rfl rfl rfl rfl) rfl rfl) ?_
            refine AN.all (rs := [8, 10]) (by kernel_rfl) rfl ⟨?_, ?_, trivial⟩
            · refine Stp.eff rfl rfl (Eff.yld (Yld.loadAgg Try.isAgg109 Try.sizeOf109 rfl rfl rfl rfl) rfl rfl) ?_
              refine AN.all (rs := [10]) (by kernel_rfl) rfl ⟨?_, trivial⟩
              refine Stp.eff rfl rfl (Eff.alloc 1 Try.zeroValue109 rfl rfl rfl) ?_
              refine AN.all (rs := [11]) (by kernel_rfl) rfl ⟨?_, trivial⟩
              refine Stp.eff rfl rfl (Eff.store Try.sizeOf109 rfl rfl rfl rfl rfl rfl) ?_
              refine AN.all (rs := [12]) (by kernel_rfl) rfl ⟨?_, trivial⟩
              refine Stp.eff rfl rfl (Eff.store Try.sizeOf109 rfl rfl rfl rfl rfl rfl) ?_
              exact AN.done (by kernel_rfl) (Le.intro ⟨rfl, rfl, rfl, rfl, rfl, rfl, rfl, rfl, rfl, rfl, rfl, rfl, rfl, rfl, rfl, rfl, rfl, rfl, rfl, trivial⟩ ⟨rfl, rfl, trivial⟩)
            · refine Stp.eff rfl rfl (Eff.alloc 1 Try.zeroValue109 rfl rfl rfl) ?_
              refine AN.all (rs := [8, 11]) (by kernel_rfl) rfl ⟨?_, ?_, trivial⟩
              · refine Stp.eff rfl rfl (Eff.yld (Yld.loadAgg Try.isAgg109 Try.sizeOf109 rfl rfl rfl rfl) rfl rfl) ?_
                refine AN.all (rs := [11]) (by kernel_rfl) rfl ⟨?_, trivial⟩
                refine Stp.eff rfl rfl (Eff.store Try.sizeOf109 rfl rfl rfl rfl rfl rfl) ?_
                refine AN.all (rs := [12]) (by kernel_rfl) rfl ⟨?_, trivial⟩
                refine Stp.eff rfl rfl (Eff.store Try.sizeOf109 rfl rfl rfl rfl rfl rfl) ?_
                exact AN.done (by kernel_rfl) (Le.intro ⟨rfl, rfl, rfl, rfl, rfl, rfl, rfl, rfl, rfl, rfl, rfl, rfl, rfl, rfl, rfl, rfl, rfl, rfl, rfl, trivial⟩ ⟨rfl, rfl, trivial⟩)
              · refine Stp.eff rfl rfl (Eff.store Try.sizeOf109 rfl rfl rfl rfl rfl rfl) ?_
                refine AN.all (rs := [8]) (by kernel_rfl) rfl ⟨?_, trivial⟩
                refine Stp.eff rfl rfl (Eff.yld (Yld.loadAgg Try.isAgg109 Try.sizeOf109 rfl rfl rfl rfl) rfl rfl) ?_
                refine AN.all (rs := [12]) (by kernel_rfl) rfl ⟨?_, trivial⟩
                refine Stp.eff rfl rfl (Eff.store Try.sizeOf109 rfl rfl rfl rfl rfl rfl) ?_
                exact AN.done (by kernel_rfl) (Le.intro ⟨rfl, rfl, rfl, rfl, rfl, rfl, rfl, rfl, rfl, rfl, rfl, rfl, rfl, rfl, rfl, rfl, rfl, rfl, rfl, trivial⟩ ⟨rfl, rfl, trivial⟩)
          · refine Stp.eff rfl rfl (Eff.yld (Yld.loadAgg Try.isAgg109 Try.sizeOf109 rfl rfl rfl rfl) rfl rfl) ?_
            refine AN.all (rs := [4, 10]) (by kernel_rfl) rfl ⟨?_, ?_, trivial⟩
            · refine Stp.eff rfl rfl (Eff.yld (Yld.loadAgg Try.isAgg109 Try.sizeOf109 rfl rfl rfl rfl) rfl rfl) ?_
              refine AN.all (rs := [10]) (by kernel_rfl) rfl ⟨?_, trivial⟩
              refine Stp.eff rfl rfl (Eff.alloc 1 Try.zeroValue109 rfl rfl rfl) ?_
              refine AN.all (rs := [11]) (by kernel_rfl) rfl ⟨?_, trivial⟩
              refine Stp.eff rfl rfl (Eff.store Try.sizeOf109 rfl rfl rfl rfl rfl rfl) ?_
              refine AN.all (rs := [12]) (by kernel_rfl) rfl ⟨?_, trivial⟩
              refine Stp.eff rfl rfl (Eff.store Try.sizeOf109 rfl rfl rfl rfl rfl rfl) ?_
              exact AN.done (by kernel_rfl) (Le.intro ⟨rfl, rfl, rfl, rfl, rfl, rfl, rfl, rfl, rfl, rfl, rfl, rfl, rfl, rfl, rfl, rfl, rfl, rfl, rfl, trivial⟩ ⟨rfl, rfl, trivial⟩)
            · refine Stp.eff rfl rfl (Eff.alloc 1 Try.zeroValue109 rfl rfl rfl) ?_
              refine AN.all (rs := [4]) (by kernel_rfl) rfl ⟨?_, trivial⟩
              refine Stp.eff rfl rfl (Eff.yld (Yld.loadAgg Try.isAgg109 Try.sizeOf109 rfl rfl rfl rfl) rfl rfl) ?_
              refine AN.all (rs := [11]) (by kernel_rfl) rfl ⟨?_, trivial⟩
              refine Stp.eff rfl rfl (Eff.store Try.sizeOf109 rfl rfl rfl rfl rfl rfl) ?_
              refine AN.all (rs := [12]) (by kernel_rfl) rfl ⟨?_, trivial⟩
              refine Stp.eff rfl rfl (Eff.store Try.sizeOf109 rfl rfl rfl rfl rfl rfl) ?_
              exact AN.done (by kernel_rfl) (Le.intro ⟨rfl, rfl, rfl, rfl, rfl, rfl, rfl, rfl, rfl, rfl, rfl, rfl, rfl, rfl, rfl, rfl, rfl, rfl, rfl, trivial⟩ ⟨rfl, rfl, trivial⟩)
          · refine Stp.eff rfl rfl (Eff.alloc 1 Try.zeroValue109 rfl rfl rfl) ?_
            refine AN.all (rs := [4, 8]) (by kernel_rfl) rfl ⟨?_, ?_, trivial⟩
            · refine Stp.eff rfl rfl (Eff.yld (Yld.loadAgg Try.isAgg109 Try.sizeOf109 rfl rfl rfl rfl) rfl rfl) ?_
              refine AN.all (rs := [8, 11]) (by kernel_rfl) rfl ⟨?_, ?_, trivial⟩
              · refine Stp.eff rfl rfl (Eff.yld (Yld.loadAgg Try.isAgg109 Try.sizeOf109 rfl rfl rfl rfl) rfl rfl) ?_
                refine AN.all (rs := [11]) (by kernel_rfl) rfl ⟨?_, trivial⟩
                refine Stp.eff rfl rfl (Eff.store Try.sizeOf109 rfl rfl rfl rfl rfl rfl) ?_
                refine AN.all (rs := [12]) (by kernel_rfl) rfl ⟨?_, trivial⟩
                refine Stp.eff rfl rfl (Eff.store Try.sizeOf109 rfl rfl rfl rfl rfl rfl) ?_
                exact AN.done (by kernel_rfl) (Le.intro ⟨rfl, rfl, rfl, rfl, rfl, rfl, rfl, rfl, rfl, rfl, rfl, rfl, rfl, rfl, rfl, rfl, rfl, rfl, rfl, trivial⟩ ⟨rfl, rfl, trivial⟩)
              · refine Stp.eff rfl rfl (Eff.store Try.sizeOf109 rfl rfl rfl rfl rfl rfl) ?_
                refine AN.all (rs := [8]) (by kernel_rfl) rfl ⟨?_, trivial⟩
                refine Stp.eff rfl rfl (Eff.yld (Yld.loadAgg Try.isAgg109 Try.sizeOf109 rfl rfl rfl rfl) rfl rfl) ?_
                refine AN.all (rs := [12]) (by kernel_rfl) rfl ⟨?_, trivial⟩
                refine Stp.eff rfl rfl (Eff.store Try.sizeOf109 rfl rfl rfl rfl rfl rfl) ?_
                exact AN.done (by kernel_rfl) (Le.intro ⟨rfl, rfl, rfl, rfl, rfl, rfl, rfl, rfl, rfl, rfl, rfl, rfl, rfl, rfl, rfl, rfl, rfl, rfl, rfl, trivial⟩ ⟨rfl, rfl, trivial⟩)
            · refine Stp.eff rfl rfl (Eff.yld (Yld.loadAgg Try.isAgg109 Try.sizeOf109 rfl rfl rfl rfl) rfl rfl) ?_
              refine AN.all (rs := [4]) (by kernel_rfl) rfl ⟨?_, trivial⟩
              refine Stp.eff rfl rfl (Eff.yld (Yld.loadAgg Try.isAgg109 Try.sizeOf109 rfl rfl rfl rfl) rfl rfl) ?_
              refine AN.all (rs := [11]) (by kernel_rfl) rfl ⟨?_, trivial⟩
              refine Stp.eff rfl rfl (Eff.store Try.sizeOf109 rfl rfl rfl rfl rfl rfl) ?_
              refine AN.all (rs := [12]) (by kernel_rfl) rfl ⟨?_, trivial⟩
              refine Stp.eff rfl rfl (Eff.store Try.sizeOf109 rfl rfl rfl rfl rfl rfl) ?_
              exact AN.done (by kernel_rfl) (Le.intro ⟨rfl, rfl, rfl, rfl, rfl, rfl, rfl, rfl, rfl, rfl, rfl, rfl, rfl, rfl, rfl, rfl, rfl, rfl, rfl, trivial⟩ ⟨rfl, rfl, trivial⟩)
        · refine Stp.eff rfl rfl (Eff.alloc 1 Try.zeroValue109 rfl rfl rfl) ?_
          refine AN.all (rs := [4, 8, 9]) (by kernel_rfl) rfl ⟨?_, ?_, ?_, trivial⟩
          · refine Stp.eff rfl rfl (Eff.yld (Yld.loadAgg Try.isAgg109 Try.sizeOf109 rfl rfl rfl rfl) rfl rfl) ?_
            refine AN.all (rs := [8, 9]) (by kernel_rfl) rfl ⟨?_, ?_, trivial⟩
            · refine Stp.eff rfl rfl (Eff.yld (Yld.loadAgg Try.isAgg109 Try.sizeOf109 rfl rfl rfl rfl) rfl rfl) ?_
              refine AN.all (rs := [9]) (by kernel_rfl) rfl ⟨?_, trivial⟩
              refine Stp.eff rfl rfl (Eff.alloc 0 Try.zeroValue109 rfl rfl rfl) ?_
              refine AN.all (rs := [11]) (by kernel_rfl) rfl ⟨?_, trivial⟩
              refine Stp.eff rfl rfl (Eff.store Try.sizeOf109 rfl rfl rfl rfl rfl rfl) ?_
              refine AN.all (rs := [12]) (by kernel_rfl) rfl ⟨?_, trivial⟩
              refine Stp.eff rfl rfl (Eff.store Try.sizeOf109 rfl rfl rfl rfl rfl rfl) ?_
              exact AN.done (by kernel_rfl) (Le.intro ⟨rfl, rfl, rfl, rfl, rfl, rfl, rfl, rfl, rfl, rfl, rfl, rfl, rfl, rfl, rfl, rfl, rfl, rfl, rfl, trivial⟩ ⟨rfl, rfl, trivial⟩)
            · refine Stp.eff rfl rfl (Eff.alloc 0 Try.zeroValue109 rfl rfl rfl) ?_
              refine AN.all (rs := [8, 11]) (by kernel_rfl) rfl ⟨?_, ?_, trivial⟩
              · refine Stp.eff rfl rfl (Eff.yld (Yld.loadAgg Try.isAgg109 Try.sizeOf109 rfl rfl rfl rfl) rfl rfl) ?_
                refine AN.all (rs := [11]) (by kernel_rfl) rfl ⟨?_, trivial⟩
                refine Stp.eff rfl rfl (Eff.store Try.sizeOf109 rfl rfl rfl rfl rfl rfl) ?_
                refine AN.all (rs := [12]) (by kernel_rfl) rfl ⟨?_, trivial⟩
                refine Stp.eff rfl rfl (Eff.store Try.sizeOf109 rfl rfl rfl rfl rfl rfl) ?_
                exact AN.done (by kernel_rfl) (Le.intro ⟨rfl, rfl, rfl, rfl, rfl, rfl, rfl, rfl, rfl, rfl, rfl, rfl, rfl, rfl, rfl, rfl, rfl, rfl, rfl, trivial⟩ ⟨rfl, rfl, trivial⟩)
              · refine Stp.eff rfl rfl (Eff.store Try.sizeOf109 rfl rfl rfl rfl rfl rfl) ?_
                refine AN.all (rs := [8]) (by kernel_rfl) rfl ⟨?_, trivial⟩
                refine Stp.eff rfl rfl (Eff.yld (Yld.loadAgg Try.isAgg109 Try.sizeOf109 rfl rfl rfl rfl) rfl rfl) ?_
                refine AN.all (rs := [12]) (by kernel_rfl) rfl ⟨?_, trivial⟩
                refine Stp.eff rfl rfl (Eff.store Try.sizeOf109 rfl rfl rfl rfl rfl rfl) ?_
                exact AN.done (by kernel_rfl) (Le.intro ⟨rfl, rfl, rfl, rfl, rfl, rfl, rfl, rfl, rfl, rfl, rfl, rfl, rfl, rfl, rfl, rfl, rfl, rfl, rfl, trivial⟩ ⟨rfl, rfl, trivial⟩)
          · refine Stp.eff rfl rfl (Eff.yld (Yld.loadAgg Try.isAgg109 Try.sizeOf109 rfl rfl rfl rfl) rfl rfl) ?_
            refine AN.all (rs := [4, 9]) (by kernel_rfl) rfl ⟨?_, ?_, trivial⟩
            · refine Stp.eff rfl rfl (Eff.yld (Yld.loadAgg Try.isAgg109 Try.sizeOf109 rfl rfl rfl rfl) rfl rfl) ?_
              refine AN.all (rs := [9]) (by kernel_rfl) rfl ⟨?_, trivial⟩
              refine Stp.eff rfl rfl (Eff.alloc 0 Try.zeroValue109 rfl rfl rfl) ?_
              refine AN.all (rs := [11]) (by kernel_rfl) rfl ⟨?_, trivial⟩
              refine Stp.eff rfl rfl (Eff.store Try.sizeOf109 rfl rfl rfl rfl rfl rfl) ?_
              refine AN.all (rs := [12]) (by kernel_rfl) rfl ⟨?_, trivial⟩
              refine Stp.eff rfl rfl (Eff.store Try.sizeOf109 rfl rfl rfl rfl rfl rfl) ?_
              exact AN.done (by kernel_rfl) (Le.intro ⟨rfl, rfl, rfl, rfl, rfl, rfl, rfl, rfl, rfl, rfl, rfl, rfl, rfl, rfl, rfl, rfl, rfl, rfl, rfl, trivial⟩ ⟨rfl, rfl, trivial⟩)
            · refine Stp.eff rfl rfl (Eff.alloc 0 Try.zeroValue109 rfl rfl rfl) ?_
              refine AN.all (rs := [4]) (by kernel_rfl) rfl ⟨?_, trivial⟩
              refine Stp.eff rfl rfl (Eff.yld (Yld.loadAgg Try.isAgg109 Try.sizeOf109 rfl rfl rfl rfl) rfl rfl) ?_
              refine AN.all (rs := [11]) (by kernel_rfl) rfl ⟨?_, trivial⟩
              refine Stp.eff rfl rfl (Eff.store Try.sizeOf109 rfl rfl rfl rfl rfl rfl) ?_
              refine AN.all (rs := [12]) (by kernel_rfl) rfl ⟨?_, trivial⟩
              refine Stp.eff rfl rfl (Eff.store Try.sizeOf109 rfl rfl rfl rfl rfl rfl) ?_
              exact AN.done (by kernel_rfl) (Le.intro ⟨rfl, rfl, rfl, rfl, rfl, rfl, rfl, rfl, rfl, rfl, rfl, rfl, rfl, rfl, rfl, rfl, rfl, rfl, rfl, trivial⟩ ⟨rfl, rfl, trivial⟩)
          · refine Stp.eff rfl rfl (Eff.alloc 0 Try.zeroValue109 rfl rfl rfl) ?_
            refine AN.all (rs := [4, 8]) (by kernel_rfl) rfl ⟨?_, ?_, trivial⟩
            · refine Stp.eff rfl rfl (Eff.yld (Yld.loadAgg Try.isAgg109 Try.sizeOf109 rfl rfl rfl rfl) rfl rfl) ?_
              refine AN.all (rs := [8, 11]) (by kernel_rfl) rfl ⟨?_, ?_, trivial⟩
              · refine Stp.eff rfl rfl (Eff.yld (Yld.loadAgg Try.isAgg109 Try.sizeOf109 rfl rfl rfl rfl) rfl rfl) ?_
                refine AN.all (rs := [11]) (by kernel_rfl) rfl ⟨?_, trivial⟩
                refine Stp.eff rfl rfl (Eff.store Try.sizeOf109 rfl rfl rfl rfl rfl rfl) ?_
                refine AN.all (rs := [12]) (by kernel_rfl) rfl ⟨?_, trivial⟩
                refine Stp.eff rfl rfl (Eff.store Try.sizeOf109 rfl rfl rfl rfl rfl rfl) ?_
                exact AN.done (by kernel_rfl) (Le.intro ⟨rfl, rfl, rfl, rfl, rfl, rfl, rfl, rfl, rfl, rfl, rfl, rfl, rfl, rfl, rfl, rfl, rfl, rfl, rfl, trivial⟩ ⟨rfl, rfl, trivial⟩)
              · refine Stp.eff rfl rfl (Eff.store Try.sizeOf109 rfl rfl rfl rfl rfl rfl) ?_
                refine AN.all (rs := [8]) (by kernel_rfl) rfl ⟨?_, trivial⟩
                refine Stp.eff rfl rfl (Eff.yld (Yld.loadAgg Try.isAgg109 Try.sizeOf109 rfl rfl rfl rfl) rfl rfl) ?_
                refine AN.all (rs := [12]) (by kernel_rfl) rfl ⟨?_, trivial⟩
                refine Stp.eff rfl rfl (Eff.store Try.sizeOf109 rfl rfl rfl rfl rfl rfl) ?_
                exact AN.done (by kernel_rfl) (Le.intro ⟨rfl, rfl, rfl, rfl, rfl, rfl, rfl, rfl, rfl, rfl, rfl, rfl, rfl, rfl, rfl, rfl, rfl, rfl, rfl, trivial⟩ ⟨rfl, rfl, trivial⟩)
            · refine Stp.eff rfl rfl (Eff.yld (Yld.loadAgg Try.isAgg109 Try.sizeOf109 rfl rfl rfl rfl) rfl rfl) ?_
              refine AN.all (rs := [4]) (by kernel_rfl) rfl ⟨?_, trivial⟩
              refine Stp.eff rfl rfl (Eff.yld (Yld.loadAgg Try.isAgg109 Try.sizeOf109 rfl rfl rfl rfl) rfl rfl) ?_
              refine AN.all (rs := [11]) (by kernel_rfl) rfl ⟨?_, trivial⟩
              refine Stp.eff rfl rfl (Eff.store Try.sizeOf109 rfl rfl rfl rfl rfl rfl) ?_
              refine AN.all (rs := [12]) (by kernel_rfl) rfl ⟨?_, trivial⟩
              refine Stp.eff rfl rfl (Eff.store Try.sizeOf109 rfl rfl rfl rfl rfl rfl) ?_
              exact AN.done (by kernel_rfl) (Le.intro ⟨rfl, rfl, rfl, rfl, rfl, rfl, rfl, rfl, rfl, rfl, rfl, rfl, rfl, rfl, rfl, rfl, rfl, rfl, rfl, trivial⟩ ⟨rfl, rfl, trivial⟩)
      · -- behind
        refine AC.draw (by kernel_rfl) (by kernel_rfl) ?_
        refine AO.yld _ (Yld.move rfl) rfl rfl rfl ?_
        refine AO.yld _ (Yld.fieldAddr Try.underlying109 rfl rfl Try.sizeOf2 rfl rfl rfl) rfl rfl rfl ?_
        refine AO.yld _ (Yld.load Try.isAgg2 rfl rfl) rfl rfl rfl ?_
        refine AO.yld _ (Yld.fieldAddr Try.underlying109 rfl rfl Try.sizeOf2 rfl rfl rfl) rfl rfl rfl ?_
        refine AO.yld _ (Yld.load Try.isAgg2 rfl rfl) rfl rfl rfl ?_
        refine AO.yld _ (Yld.sub rfl rfl (by omega) (by omega)) rfl rfl rfl ?_
        refine AO.yld _ (Yld.call rfl rfl Try.call71 rfl rfl rfl (impl_absOf_c (by omega) (by omega)) rfl) rfl rfl rfl ?_
        refine AO.yld _ (Yld.fieldAddr Try.underlying109 rfl rfl Try.sizeOf2 rfl rfl rfl) rfl rfl rfl ?_
        refine AO.yld _ (Yld.load Try.isAgg2 rfl rfl) rfl rfl rfl ?_
        refine AO.yld _ (Yld.fieldAddr Try.underlying109 rfl rfl Try.sizeOf2 rfl rfl rfl) rfl rfl rfl ?_
        refine AO.yld _ (Yld.load Try.isAgg2 rfl rfl) rfl rfl rfl ?_
        refine AO.yld _ (Yld.sub rfl rfl (by omega) (by omega)) rfl rfl rfl ?_
        refine AO.yld _ (Yld.call rfl rfl Try.call71 rfl rfl rfl (impl_absOf_c (by omega) (by omega)) rfl) rfl rfl rfl ?_
        refine AO.yld _ (Yld.max2 rfl rfl) rfl rfl rfl ?_
        refine AO.yld _ (Yld.fieldAddr Try.underlying109 rfl rfl Try.sizeOf2 rfl rfl rfl) rfl rfl rfl ?_
        refine AO.yld _ (Yld.load Try.isAgg2 rfl rfl) rfl rfl rfl ?_
        refine AO.yld _ (Yld.fieldAddr Try.underlying109 rfl rfl Try.sizeOf2 rfl rfl rfl) rfl rfl rfl ?_
        refine AO.yld _ (Yld.load Try.isAgg2 rfl rfl) rfl rfl rfl ?_
        refine AO.yld _ (Yld.sub rfl rfl (by omega) (by omega)) rfl rfl rfl ?_
        refine AO.yld _ (Yld.call rfl rfl Try.call91 rfl rfl rfl (impl_quotientUp_c (by omega) (by omega) (by omega)) rfl) rfl rfl rfl ?_
        refine AO.yld _ (Yld.max2 rfl rfl) rfl rfl rfl ?_
        refine AO.yld _ (Yld.assign rfl) rfl rfl rfl ?_
        refine AO.nil ?_
        refine AC.mark ?_
        refine AC.region ?_
        refine AO.yld _ (Yld.move rfl) rfl rfl rfl ?_
        refine AO.yld _ (Yld.add rfl rfl (by omega) (by omega)) rfl rfl rfl ?_
        refine AO.yld _ (Yld.assign rfl) rfl rfl rfl ?_
        refine AO.nil ?_
        refine AC.back ⟨k + 1, ?_, ?_, ⟨?_, ?_, trivial⟩, trivial, ⟨rfl, rfl, trivial⟩, trivial⟩
        · exact ⟨by omega, hk⟩
        · omega
        · rfl
        · show some (AV.p (PV.v (Value.int IntKind.i64 _))) = _; rw [driftTo_succ (by omega) hx hy]; rfl
    · -- c10 False
      obtain rfl : k = xs.length := by have := ge_of_decM c10; omega
      refine AC.exit rfl ?_
      refine AC.seq ?_
      refine AC.region ?_
      refine AO.yld _ (Yld.move rfl) rfl rfl rfl ?_
      refine AO.yld _ (Yld.assign rfl) rfl rfl rfl ?_
      refine AO.nil ?_
      refine Pure.ret Try.results106 (RVs.cons (RV.tmp rfl) RVs.nil) rfl ?_
      rfl

theorem impl_DriftPerDay_c {xs : List Session} (hn : xs.length ≤ 1048576) :
    Pure Try.prog 63 [.sl 4 (xs.map encSession)] (.tup [.v (.int .i64 (driftPerDay xs).1), .v (.int .i64 (driftPerDay xs).2)]) := by
  refine Pure.intro Try.func63 rfl Try.ntmps63 rfl rfl (fun w => ?_)
  refine AC.seq ?_
  refine AC.region ?_
  refine AO.yld _ (Yld.assign rfl) rfl rfl rfl ?_
  refine AO.yld _ (Yld.assign rfl) rfl rfl rfl ?_
  refine AO.nil ?_
  refine AC.seq ?_
  refine AC.seq ?_
  refine AC.region ?_
  refine AO.yld _ (Yld.move rfl) rfl rfl rfl ?_
  refine AO.yld _ (Yld.call rfl rfl Try.call30 rfl rfl rfl (impl_ValidSessions_c (by first | assumption | omega)) rfl) rfl rfl rfl ?_
  refine AO.yld _ (Yld.not rfl) rfl rfl rfl ?_
  refine AO.nil ?_
  refine AC.cond _ rfl (fun c6 => ?_) (fun c6 => ?_)
  · -- c6 True
    refine AC.seq ?_
    refine AC.region ?_
    refine AO.yld _ (Yld.assign rfl) rfl rfl rfl ?_
    refine AO.yld _ (Yld.assign rfl) rfl rfl rfl ?_
    refine AO.nil ?_
    refine Pure.retT Try.results63 (RVs.cons (RV.tmp rfl) (RVs.cons (RV.tmp rfl) RVs.nil)) rfl ?_
    first | (simp_all [driftPerDay]; done) | grind [driftPerDay]
  · -- c6 False
    refine AC.skip ?_
    refine AC.seq ?_
    refine AC.seq ?_
    refine AC.region ?_
    refine AO.yld _ (Yld.move rfl) rfl rfl rfl ?_
    refine AO.yld _ (Yld.len Try.underlying47 rfl rfl) rfl rfl rfl ?_
    refine AO.yld _ (Yld.int rfl rfl rfl) rfl rfl rfl ?_
    refine AO.nil ?_
    refine AC.cond _ rfl (fun c9 => ?_) (fun c9 => ?_)
    · -- c9 True
      refine AC.seq ?_
      refine AC.region ?_
      refine AO.yld _ (Yld.assign rfl) rfl rfl rfl ?_
      refine AO.yld _ (Yld.assign rfl) rfl rfl rfl ?_
      refine AO.nil ?_
      refine Pure.retT Try.results63 (RVs.cons (RV.tmp rfl) (RVs.cons (RV.tmp rfl) RVs.nil)) rfl ?_
      first | (simp_all [driftPerDay]; done) | grind [driftPerDay]
    · -- c9 False
      refine AC.skip ?_
      refine AC.seq ?_
      refine AC.region ?_
      refine AO.yld _ (Yld.move rfl) rfl rfl rfl ?_
      refine AO.yld _ (Yld.call rfl rfl Try.call106 rfl rfl rfl (impl_driftPerDay_c (by omega) (by simpa using c6)) rfl) rfl rfl rfl ?_
      refine AO.yld _ (Yld.assign rfl) rfl rfl rfl ?_
      refine AO.yld _ (Yld.assign rfl) rfl rfl rfl ?_
      refine AO.nil ?_
      refine Pure.retT Try.results63 (RVs.cons (RV.tmp rfl) (RVs.cons (RV.tmp rfl) RVs.nil)) rfl ?_
      first | (simp_all [driftPerDay]; done) | grind [driftPerDay]

end Go.Proofs.Ytjmicabmkipomaa
