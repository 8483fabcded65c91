/- Contracts of functions of the program, each by a walk of its text in the calculus V. -/
import Derived.Test.YtdpanmnnfamfmaaR10
import Derived.Test.YtdpanmnnfamfmaaD47
import Derived.Test.YtdpanmnnfamfmaaV22
set_option linter.all false
set_option linter.unusedSimpArgs false
set_option linter.unnecessarySimpa false
set_option linter.unusedVariables false
namespace Go.Proofs.Ytdpanmnnfamfmaa
open Go Go.V

theorem impl_LateMachines_c {xs : List Mach} (hn : xs.length ≤ 1048576) (hs : ∀ x ∈ xs, x.name.length ≤ 1048576) {l : Int} :
    FnE (α := Unit) Try.prog 20 [.p (.sl 3 (xs.map encMach)), .p (.v (.int .i64 l))] [] [] (fun _ => True) (fun _ => .tup [.h 0, .p (.v (.int .i64 (lateMachines xs l).2))]) (fun _ => [(0, .vec 2 1 ((lateMachines xs l).1.map Go.V.encI))]) := by
  refine FnE.intro Try.func20 rfl Try.ntmps20 rfl rfl (fun w0 F0 η φ w => ?_)
  refine AC.seq ?_
  refine AC.region ?_
  refine AO.yld _ (Yld.assign rfl) rfl rfl rfl ?_
  refine AO.yld _ (Yld.assign rfl) rfl rfl rfl ?_
  refine AO.nil ?_
  refine AC.seq ?_
  refine AC.seq ?_
  refine AC.region ?_
  refine AO.yld _ (Yld.move rfl) rfl rfl rfl ?_
  refine AO.yld _ (Yld.call rfl rfl Try.call51 rfl rfl rfl (impl_checkMachines_c (by first | assumption | omega) (by assumption)) rfl) rfl rfl rfl ?_
  refine AO.yld _ (Yld.assign rfl) rfl rfl rfl ?_
  refine AO.nil ?_
  refine AC.seq ?_
  refine AC.region ?_
  refine AO.yld _ (Yld.move rfl) rfl rfl rfl ?_
  refine AO.yld _ (Yld.int rfl rfl rfl) rfl rfl rfl ?_
  refine AO.nil ?_
  refine AC.cond _ rfl (fun c13 => ?_) (fun c13 => ?_)
  · -- c13 True
    refine AC.seq ?_
    refine AC.region ?_
    refine AO.yld _ (Yld.move rfl) rfl rfl rfl ?_
    refine AO.yld _ (Yld.assign rfl) rfl rfl rfl ?_
    refine AO.yld _ (Yld.assign rfl) rfl rfl rfl ?_
    refine AO.nil ?_
    refine AC.nilVec 4 0 2 1 rfl rfl ?_
    refine FnE.ret () [0] [0] Try.results20 (RVs.cons (RV.tmp rfl) (RVs.cons (RV.tmp rfl) RVs.nil)) rfl rfl rfl ?_ ?_ ⟨⟨_, rfl, ?_⟩, trivial⟩
    · -- holds
      trivial
    · -- value
      refine tupE ?_; first | (simp_all [lateMachines]; done) | grind [lateMachines]
    · -- thing 0
      refine vecE ?_; first | (simp_all [lateMachines, idxOn]; done) | grind [lateMachines, idxOn]
  · -- c13 False
    have hk0 : askMachines xs = 0 := by first | (simpa using c13) | (exact absurd c13 (by decide))
    have hok := (ask_ok hk0).1
    refine AC.skip ?_
    refine AC.seq ?_
    refine AC.seq ?_
    refine AC.region ?_
    refine AO.yld _ (Yld.move rfl) rfl rfl rfl ?_
    refine AO.yld _ (Yld.int rfl rfl rfl) rfl rfl rfl ?_
    refine AO.nil ?_
    refine AC.cond _ rfl (fun c16 => ?_) (fun c16 => ?_)
    · -- c16 True
      refine AC.seq ?_
      refine AC.region ?_
      refine AO.yld _ (Yld.assign rfl) rfl rfl rfl ?_
      refine AO.yld _ (Yld.assign rfl) rfl rfl rfl ?_
      refine AO.nil ?_
      refine AC.nilVec 4 0 2 1 rfl rfl ?_
      refine FnE.ret () [0] [0] Try.results20 (RVs.cons (RV.tmp rfl) (RVs.cons (RV.tmp rfl) RVs.nil)) rfl rfl rfl ?_ ?_ ⟨⟨_, rfl, ?_⟩, trivial⟩
      · -- holds
        trivial
      · -- value
        refine tupE ?_; first | (simp_all [lateMachines]; done) | grind [lateMachines]
      · -- thing 0
        refine vecE ?_; first | (simp_all [lateMachines, idxOn]; done) | grind [lateMachines, idxOn]
    · -- c16 False
      refine AC.skip ?_
      refine AC.seq ?_
      refine AC.region ?_
      refine AO.yld _ (Yld.assign rfl) rfl rfl rfl ?_
      refine AO.nil ?_
      refine AC.seq ?_
      refine AC.seq ?_
      refine AC.region ?_
      refine AO.yld _ (Yld.move rfl) rfl rfl rfl ?_
      refine AO.yld _ (Yld.len Try.underlying38 rfl rfl) rfl rfl rfl ?_
      refine AO.yld _ (Yld.move rfl) rfl rfl rfl ?_
      refine AO.nil ?_
      refine AC.block ?_
      refine AC.nilVec 7 0 2 1 rfl rfl ?_
      refine AC.loopC [(1, _), (4, _), (5, _), (17, _), (18, _)] [(900, _)] (fun (k : Nat) => [(19, .p (.v (.int .i64 (k : Int)))), (7, .h 0)]) (fun (k : Nat) => [(0, .vec 2 1 ((idxTo (lateB l) xs k).map Go.V.encI))]) (fun (k : Nat) => k ≤ xs.length) (fun (k : Nat) => xs.length - k) 0 ⟨rfl, rfl, rfl, rfl, rfl, trivial⟩ ⟨rfl, trivial⟩ ⟨rfl, rfl, trivial⟩ ⟨rfl, trivial⟩ ?_ (fun k hJ => ?_)
      · exact Nat.zero_le _
      · -- round
        refine AC.seq ?_
        refine AC.region ?_
        refine AO.yld _ (Yld.int rfl rfl rfl) rfl rfl rfl ?_
        refine AO.nil ?_
        refine AC.seq ?_
        refine AC.cond _ rfl (fun c20 => ?_) (fun c20 => ?_)
        · -- c20 True
          have hk := lt_of_decM c20
          obtain ⟨x, hx⟩ := get_some hk
          have hrow := map_row (enc := encMach) hx
          have hox := machines_at hok hx
          have hlx := mach_lim hox
          have hhu := half_up (a := x.delay) (by omega)
          have hil := idxTo_len (p := (lateB l)) (xs := xs) k
          refine AC.skip ?_
          refine AC.seq ?_
          refine AC.block ?_
          refine AC.seq ?_
          refine AC.region ?_
          refine AO.yld _ (Yld.move rfl) rfl rfl rfl ?_
          refine AO.yld _ (Yld.indexSl Try.underlying38 Try.sizeOf48 rfl rfl hrow rfl) rfl rfl rfl ?_
          refine AO.yld _ (Yld.loadAgg Try.isAgg48 Try.sizeOf48 rfl rfl rfl rfl) rfl rfl rfl ?_
          refine AO.alloc 1 Try.zeroValue48 rfl rfl rfl ?_
          refine AO.yld _ (Yld.assign rfl) rfl rfl rfl ?_
          refine AO.store Try.sizeOf48 rfl rfl rfl rfl rfl rfl ?_
          refine AO.nil ?_
          refine AC.seq ?_
          refine AC.region ?_
          refine AO.yld _ (Yld.move rfl) rfl rfl rfl ?_
          refine AO.yld _ (Yld.fieldAddr Try.underlying48 rfl rfl Try.sizeOf2 rfl rfl rfl) rfl rfl rfl ?_
          refine AO.yld _ (Yld.load Try.isAgg2 rfl rfl) rfl rfl rfl ?_
          refine AO.yld _ (Yld.call rfl rfl Try.call52 rfl rfl rfl (impl_quotientUp_c (by omega) (by omega) (by omega)) rfl) rfl rfl rfl ?_
          refine AO.yld _ (Yld.int rfl rfl rfl) rfl rfl rfl ?_
          refine AO.nil ?_
          refine AC.cond _ rfl (fun c28 => ?_) (fun c28 => ?_)
          · -- c28 True
            refine AC.region ?_
            refine AO.yld _ (Yld.move rfl) rfl rfl rfl ?_
            refine AO.yld _ (Yld.move rfl) rfl rfl rfl ?_
            refine AO.buildSlice (rows := [[_]]) 2 Try.underlying42 ty2 rfl rfl rfl rfl rfl rfl rfl rfl rfl ?_
            refine AO.append 0 Try.underlying42 ty2 rfl rfl rfl rfl rfl rfl rfl (by simp [pvOne]) (by simp only [List.length_map, List.length_cons, List.length_nil]; omega) (by simp only [List.length_map, List.length_cons, List.length_nil]; omega) rfl ?_
            refine AO.yld _ (Yld.assign rfl) rfl rfl rfl ?_
            refine AO.nil ?_
            refine AC.mark ?_
            refine AC.region ?_
            refine AO.yld _ (Yld.add rfl rfl (by omega) (by omega)) rfl rfl rfl ?_
            refine AO.yld _ (Yld.move rfl) rfl rfl rfl ?_
            refine AO.nil ?_
            refine AC.back ⟨k + 1, ?_, ?_, ⟨?_, ?_, trivial⟩, ⟨?_, trivial⟩, ⟨rfl, rfl, rfl, rfl, rfl, trivial⟩, ⟨rfl, trivial⟩⟩
            · exact hk
            · omega
            · rfl
            · rfl
            · first | (rw [idxTo_T hx (by unfold lateB; have h := c28; simp at h ⊢; omega)]; rw [map_snoc]; rfl) | (rw [idxTo_F hx (by unfold lateB; have h := c28; simp at h ⊢; omega)]; rfl)
          · -- c28 False
            refine AC.skip ?_
            refine AC.mark ?_
            refine AC.region ?_
            refine AO.yld _ (Yld.add rfl rfl (by omega) (by omega)) rfl rfl rfl ?_
            refine AO.yld _ (Yld.move rfl) rfl rfl rfl ?_
            refine AO.nil ?_
            refine AC.back ⟨k + 1, ?_, ?_, ⟨?_, ?_, trivial⟩, ⟨?_, trivial⟩, ⟨rfl, rfl, rfl, rfl, rfl, trivial⟩, ⟨rfl, trivial⟩⟩
            · exact hk
            · omega
            · rfl
            · rfl
            · first | (rw [idxTo_T hx (by unfold lateB; have h := c28; simp at h ⊢; omega)]; rw [map_snoc]; rfl) | (rw [idxTo_F hx (by unfold lateB; have h := c28; simp at h ⊢; omega)]; rfl)
        · -- c20 False
          obtain rfl : k = xs.length := by have := ge_of_decM c20; omega
          refine AC.exit rfl ?_
          refine AC.seq ?_
          refine AC.region ?_
          refine AO.yld _ (Yld.move rfl) rfl rfl rfl ?_
          refine AO.yld _ (Yld.assign rfl) rfl rfl rfl ?_
          refine AO.yld _ (Yld.assign rfl) rfl rfl rfl ?_
          refine AO.nil ?_
          refine FnE.ret () [0] [0] Try.results20 (RVs.cons (RV.tmp rfl) (RVs.cons (RV.tmp rfl) RVs.nil)) rfl rfl rfl ?_ ?_ ⟨⟨_, rfl, ?_⟩, trivial⟩
          · -- holds
            trivial
          · -- value
            refine tupE ?_; first | (simp_all [lateMachines]; done) | grind [lateMachines]
          · -- thing 0
            refine vecE ?_; first | (simp_all [lateMachines, idxOn]; done) | grind [lateMachines, idxOn]

theorem laws_r8Long_c {code more : List UInt8} :
    Pure Try.prog 27 [.sl 1 (code.map encB), .sl 1 (more.map encB)] (.v (.bool (decide ((code.length : Int) > 1048576) || decide ((more.length : Int) > 1048576)))) := by
  refine Pure.intro Try.func27 rfl Try.ntmps27 rfl rfl (fun w => ?_)
  refine AC.seq ?_
  refine AC.region ?_
  refine AO.yld _ (Yld.assign rfl) rfl rfl rfl ?_
  refine AO.nil ?_
  refine AC.seq ?_
  refine AC.region ?_
  refine AO.yld _ (Yld.move rfl) rfl rfl rfl ?_
  refine AO.yld _ (Yld.len Try.underlying30 rfl rfl) rfl rfl rfl ?_
  refine AO.yld _ (Yld.int rfl rfl rfl) rfl rfl rfl ?_
  refine AO.yld _ (Yld.move rfl) rfl rfl rfl ?_
  refine AO.splitAt 8 _ rfl (fun s8 => ?_) (fun s8 => ?_)
  · -- s8 True
    refine AO.skipF rfl rfl rfl rfl rfl ?_
    refine AO.skipF rfl rfl rfl rfl rfl ?_
    refine AO.skipF rfl rfl rfl rfl rfl ?_
    refine AO.yld _ (Yld.pickT rfl rfl) rfl rfl rfl ?_
    refine AO.yld _ (Yld.assign rfl) rfl rfl rfl ?_
    refine AO.nil ?_
    refine Pure.ret Try.results27 (RVs.cons (RV.tmp rfl) RVs.nil) rfl ?_
    refine cb ?_; simp only [List.length_map] at *; first | (simp_all; done) | grind
  · -- s8 False
    refine AO.yldG _ (Yld.move rfl) rfl rfl rfl rfl rfl ?_
    refine AO.yldG _ (Yld.len Try.underlying30 rfl rfl) rfl rfl rfl rfl rfl ?_
    refine AO.yldG _ (Yld.int rfl rfl rfl) rfl rfl rfl rfl rfl ?_
    refine AO.yld _ (Yld.pickF rfl rfl) rfl rfl rfl ?_
    refine AO.yld _ (Yld.assign rfl) rfl rfl rfl ?_
    refine AO.nil ?_
    refine Pure.ret Try.results27 (RVs.cons (RV.tmp rfl) RVs.nil) rfl ?_
    refine cb ?_; simp only [List.length_map] at *; first | (simp_all; done) | grind

theorem laws_r8At_c {l : List UInt8} {k n : Int} (h0 : 0 ≤ k) :
    Pure Try.prog 29 [.sl 1 (l.map encB), .v (.int .i64 k), .v (.int .i64 n)] (.v (.int .i64 (r8At l k n))) := by
  have hM : (l.map encB).length = l.length := List.length_map ..
  refine Pure.intro Try.func29 rfl Try.ntmps29 rfl rfl (fun w => ?_)
  refine AC.seq ?_
  refine AC.region ?_
  refine AO.yld _ (Yld.assign rfl) rfl rfl rfl ?_
  refine AO.nil ?_
  refine AC.seq ?_
  refine AC.seq ?_
  refine AC.region ?_
  refine AO.yld _ (Yld.move rfl) rfl rfl rfl ?_
  refine AO.yld _ (Yld.int rfl rfl rfl) rfl rfl rfl ?_
  refine AO.yld _ (Yld.move rfl) rfl rfl rfl ?_
  refine AO.splitAt 9 _ rfl (fun s9 => ?_) (fun s9 => ?_)
  · -- s9 True
    refine AO.skipF rfl rfl rfl rfl rfl ?_
    refine AO.skipF rfl rfl rfl rfl rfl ?_
    refine AO.skipF rfl rfl rfl rfl rfl ?_
    refine AO.skipF rfl rfl rfl rfl rfl ?_
    refine AO.yld _ (Yld.pickT rfl rfl) rfl rfl rfl ?_
    refine AO.nil ?_
    refine AC.condT rfl ?_
    refine AC.seq ?_
    refine AC.region ?_
    refine AO.yld _ (Yld.assign rfl) rfl rfl rfl ?_
    refine AO.nil ?_
    refine Pure.ret Try.results29 (RVs.cons (RV.tmp rfl) RVs.nil) rfl ?_
    first | exact ci (r8At_hit hn1 hk hc).symm | exact ci (r8At_no (.inl (by simpa using s9))).symm | exact ci (r8At_no (.inr (by have h := c14; rw [hM] at h; simpa using h))).symm
  · -- s9 False
    refine AO.yldG _ (Yld.move rfl) rfl rfl rfl rfl rfl ?_
    refine AO.yldG _ (Yld.move rfl) rfl rfl rfl rfl rfl ?_
    refine AO.yldG _ (Yld.len Try.underlying30 rfl rfl) rfl rfl rfl rfl rfl ?_
    refine AO.yldG _ (Yld.int rfl rfl rfl) rfl rfl rfl rfl rfl ?_
    refine AO.yld _ (Yld.pickF rfl rfl) rfl rfl rfl ?_
    refine AO.nil ?_
    refine AC.cond _ rfl (fun c14 => ?_) (fun c14 => ?_)
    · -- c14 True
      refine AC.seq ?_
      refine AC.region ?_
      refine AO.yld _ (Yld.assign rfl) rfl rfl rfl ?_
      refine AO.nil ?_
      refine Pure.ret Try.results29 (RVs.cons (RV.tmp rfl) RVs.nil) rfl ?_
      first | exact ci (r8At_hit hn1 hk hc).symm | exact ci (r8At_no (.inl (by simpa using s9))).symm | exact ci (r8At_no (.inr (by have h := c14; rw [hM] at h; simpa using h))).symm
    · -- c14 False
      have hn1 : ¬ n ≤ 1 := by simpa using s9
      have hk : k < l.length := by have h := c14; rw [hM] at h; simp at h; omega
      obtain ⟨c, hc⟩ := get_some (xs := l) (k := k.toNat) (by omega)
      have hrow := map_row (enc := encB) hc
      refine AC.skip ?_
      refine AC.seq ?_
      refine AC.region ?_
      refine AO.yld _ (Yld.move rfl) rfl rfl rfl ?_
      refine AO.yld _ (Yld.move rfl) rfl rfl rfl ?_
      refine AO.yld _ (Yld.indexSl Try.underlying30 Try.sizeOf5 rfl rfl hrow (by omega)) rfl rfl rfl ?_
      refine AO.yld _ (Yld.load Try.isAgg5 rfl rfl) rfl rfl rfl ?_
      refine AO.yld _ (Yld.convInt Try.underlying5 Try.underlying2 rfl) rfl rfl rfl ?_
      refine AO.yld _ (Yld.move rfl) rfl rfl rfl ?_
      refine AO.yld _ (Yld.rem rfl rfl (by omega)) rfl rfl rfl ?_
      refine AO.yld _ (Yld.assign rfl) rfl rfl rfl ?_
      refine AO.nil ?_
      refine Pure.ret Try.results29 (RVs.cons (RV.tmp rfl) RVs.nil) rfl ?_
      first | exact ci (r8At_hit hn1 hk hc).symm | exact ci (r8At_no (.inl (by simpa using s9))).symm | exact ci (r8At_no (.inr (by have h := c14; rw [hM] at h; simpa using h))).symm

set_option maxHeartbeats 2000000 in
theorem laws_FnLeads_c {code more : List UInt8} :
    Pure Try.prog 5 [.sl 1 (code.map encB), .sl 1 (more.map encB)] (.v (.bool true)) := by
  refine Pure.intro Try.func5 rfl Try.ntmps5 rfl rfl (fun w => ?_)
  refine AC.seq ?_
  refine AC.region ?_
  refine AO.yld _ (Yld.assign rfl) rfl rfl rfl ?_
  refine AO.nil ?_
  refine AC.seq ?_
  refine AC.seq ?_
  refine AC.region ?_
  refine AO.yld _ (Yld.move rfl) rfl rfl rfl ?_
  refine AO.yld _ (Yld.call rfl rfl Try.call13 rfl rfl rfl (laws_b10Long_c) rfl) rfl rfl rfl ?_
  refine AO.yld _ (Yld.move rfl) rfl rfl rfl ?_
  refine AO.splitAt 21 _ rfl (fun s21 => ?_) (fun s21 => ?_)
  · -- s21 True
    refine AO.skipF rfl rfl rfl rfl rfl ?_
    refine AO.skipF rfl rfl rfl rfl rfl ?_
    refine AO.yld _ (Yld.pickT rfl rfl) rfl rfl rfl ?_
    refine AO.nil ?_
    refine AC.condT rfl ?_
    refine AC.seq ?_
    refine AC.region ?_
    refine AO.yld _ (Yld.assign rfl) rfl rfl rfl ?_
    refine AO.nil ?_
    refine Pure.ret Try.results5 (RVs.cons (RV.tmp rfl) RVs.nil) rfl ?_
    first | rfl | (rw [hmb]; rfl) | (refine cb ?_; first | exact (decide_eq_true (by rw [hM]; omega)).symm | exact decide_eq_true (by rw [hM]; omega) | (exfalso; rw [hM] at s123; simp at s123; omega))
  · -- s21 False
    refine AO.yldG _ (Yld.move rfl) rfl rfl rfl rfl rfl ?_
    refine AO.yldG _ (Yld.call rfl rfl Try.call13 rfl rfl rfl (laws_b10Long_c) rfl) rfl rfl rfl rfl rfl ?_
    refine AO.yld _ (Yld.pickF rfl rfl) rfl rfl rfl ?_
    refine AO.nil ?_
    refine AC.cond _ rfl (fun c24 => ?_) (fun c24 => ?_)
    · -- c24 True
      refine AC.seq ?_
      refine AC.region ?_
      refine AO.yld _ (Yld.assign rfl) rfl rfl rfl ?_
      refine AO.nil ?_
      refine Pure.ret Try.results5 (RVs.cons (RV.tmp rfl) RVs.nil) rfl ?_
      first | rfl | (rw [hmb]; rfl) | (refine cb ?_; first | exact (decide_eq_true (by rw [hM]; omega)).symm | exact decide_eq_true (by rw [hM]; omega) | (exfalso; rw [hM] at s123; simp at s123; omega))
    · -- c24 False
      refine AC.skip ?_
      refine AC.seq ?_
      refine AC.region ?_
      refine AO.yld _ (Yld.move rfl) rfl rfl rfl ?_
      refine AO.callW (wantedN rfl) [0] [] [0] rfl rfl Try.call18 rfl (spec_DrawLeadFor_c) (.own rfl) rfl (fun ⟨_, _⟩ => rfl) trivial rfl (fun ⟨_, _⟩ => rfl) (fun ⟨_, _⟩ => rfl) (fun ⟨ms27, v27⟩ hms27 => ?_)
      dsimp only at hms27
      have hml := hms27.1
      have hnm := hms27.names
      refine AO.yld _ (Yld.move rfl) rfl rfl rfl ?_
      refine AO.yld _ (Yld.extract rfl rfl rfl) rfl rfl rfl ?_
      refine AO.yld _ (Yld.extract rfl rfl rfl) rfl rfl rfl ?_
      refine AO.yld _ (Yld.assign rfl) rfl rfl rfl ?_
      refine AO.yld _ (Yld.assign rfl) rfl rfl rfl ?_
      refine AO.nil ?_
      refine AC.seq ?_
      refine AC.region ?_
      refine AO.yld _ (Yld.move rfl) rfl rfl rfl ?_
      refine AO.yld _ (Yld.call rfl rfl Try.call19 rfl rfl rfl (impl_LeadFor_c (by omega) hnm) rfl) rfl rfl rfl ?_
      refine AO.yld _ (Yld.move rfl) rfl rfl rfl ?_
      refine AO.yld _ (Yld.extract rfl rfl rfl) rfl rfl rfl ?_
      refine AO.yld _ (Yld.extract rfl rfl rfl) rfl rfl rfl ?_
      refine AO.yld _ (Yld.assign rfl) rfl rfl rfl ?_
      refine AO.yld _ (Yld.assign rfl) rfl rfl rfl ?_
      refine AO.nil ?_
      refine AC.seq ?_
      refine AC.seq ?_
      refine AC.region ?_
      refine AO.yld _ (Yld.move rfl) rfl rfl rfl ?_
      refine AO.yld _ (Yld.int rfl rfl rfl) rfl rfl rfl ?_
      refine AO.nil ?_
      refine AC.cond _ rfl (fun c36 => ?_) (fun c36 => ?_)
      · -- c36 True
        have h0 : (leadFor ms27 0).2 = 0 := by simpa using c36
        obtain ⟨lf1, lf2, lf3, lf4⟩ := lead_facts h0
        refine AC.seq ?_
        refine AC.region ?_
        refine AO.yld _ (Yld.move rfl) rfl rfl rfl ?_
        refine AO.yld _ (Yld.move rfl) rfl rfl rfl ?_
        refine AO.callW (wantedN rfl) [1] [] [0] rfl rfl Try.call20 rfl (impl_LateMachines_c (by first | assumption | omega) (by assumption)) (.flat (.view rfl rfl (.view rfl rfl .nil)) (fun _ => by simp [AV.Flat, AV.FlatL, PV.Flat, PV.FlatL]) (fun _ => ⟨flat_map flatI _, trivial⟩)) rfl (fun _ => rfl) trivial rfl (fun _ => rfl) (fun _ => rfl) (fun _ _ => ?_)
        refine AO.yld _ (Yld.move rfl) rfl rfl rfl ?_
        refine AO.yld _ (Yld.extract rfl rfl rfl) rfl rfl rfl ?_
        refine AO.yld _ (Yld.extract rfl rfl rfl) rfl rfl rfl ?_
        refine AO.yld _ (Yld.assign rfl) rfl rfl rfl ?_
        refine AO.yld _ (Yld.assign rfl) rfl rfl rfl ?_
        refine AO.nil ?_
        refine AC.seq ?_
        refine AC.seq ?_
        refine AC.region ?_
        refine AO.yld _ (Yld.move rfl) rfl rfl rfl ?_
        refine AO.yld _ (Yld.int rfl rfl rfl) rfl rfl rfl ?_
        refine AO.yld _ (Yld.move rfl) rfl rfl rfl ?_
        refine AO.splitAt 45 _ rfl (fun s45 => ?_) (fun s45 => ?_)
        · -- s45 True
          exfalso; rw [lf3] at s45; simp at s45
        · -- s45 False
          refine AO.yldG _ (Yld.move rfl) rfl rfl rfl rfl rfl ?_
          refine AO.yldG _ (Yld.len Try.underlying42 rfl rfl) rfl rfl rfl rfl rfl ?_
          refine AO.yldG _ (Yld.int rfl rfl rfl) rfl rfl rfl rfl rfl ?_
          refine AO.yld _ (Yld.pickF rfl rfl) rfl rfl rfl ?_
          refine AO.nil ?_
          refine AC.cond _ rfl (fun c49 => ?_) (fun c49 => ?_)
          · -- c49 True
            exfalso; rw [lf3] at c49; simp at c49
          · -- c49 False
            refine AC.skip ?_
            refine AC.seq ?_
            refine AC.region ?_
            refine AO.yld _ (Yld.move rfl) rfl rfl rfl ?_
            refine AO.yld _ (Yld.int rfl rfl rfl) rfl rfl rfl ?_
            refine AO.nil ?_
            refine AC.cond _ rfl (fun c51 => ?_) (fun c51 => ?_)
            · -- c51 True
              have lp : 0 < (leadFor ms27 0).1 := by simpa using c51
              obtain ⟨lf5, lf6⟩ := lf4 lp
              refine AC.seq ?_
              refine AC.region ?_
              refine AO.yld _ (Yld.move rfl) rfl rfl rfl ?_
              refine AO.yld _ (Yld.move rfl) rfl rfl rfl ?_
              refine AO.yld _ (Yld.sub rfl rfl (by omega) (by omega)) rfl rfl rfl ?_
              refine AO.callW (wantedN rfl) [2] [] [0] rfl rfl Try.call20 rfl (impl_LateMachines_c (by first | assumption | omega) (by assumption)) (.flat (.view rfl rfl (.view rfl rfl .nil)) (fun _ => by simp [AV.Flat, AV.FlatL, PV.Flat, PV.FlatL]) (fun _ => ⟨flat_map flatI _, trivial⟩)) rfl (fun _ => rfl) trivial rfl (fun _ => rfl) (fun _ => rfl) (fun _ _ => ?_)
              refine AO.yld _ (Yld.move rfl) rfl rfl rfl ?_
              refine AO.yld _ (Yld.extract rfl rfl rfl) rfl rfl rfl ?_
              refine AO.yld _ (Yld.extract rfl rfl rfl) rfl rfl rfl ?_
              refine AO.yld _ (Yld.assign rfl) rfl rfl rfl ?_
              refine AO.yld _ (Yld.assign rfl) rfl rfl rfl ?_
              refine AO.nil ?_
              refine AC.seq ?_
              refine AC.region ?_
              refine AO.yld _ (Yld.move rfl) rfl rfl rfl ?_
              refine AO.yld _ (Yld.int rfl rfl rfl) rfl rfl rfl ?_
              refine AO.yld _ (Yld.move rfl) rfl rfl rfl ?_
              refine AO.splitAt 61 _ rfl (fun s61 => ?_) (fun s61 => ?_)
              · -- s61 True
                exfalso; rw [lf5] at s61; simp at s61
              · -- s61 False
                refine AO.yldG _ (Yld.move rfl) rfl rfl rfl rfl rfl ?_
                refine AO.yldG _ (Yld.len Try.underlying42 rfl rfl) rfl rfl rfl rfl rfl ?_
                refine AO.yldG _ (Yld.int rfl rfl rfl) rfl rfl rfl rfl rfl ?_
                refine AO.yld _ (Yld.pickF rfl rfl) rfl rfl rfl ?_
                refine AO.nil ?_
                refine AC.cond _ rfl (fun c65 => ?_) (fun c65 => ?_)
                · -- c65 True
                  exfalso; rw [List.length_map] at c65; simp at c65; exact lf6 (by rw [c65]; rfl)
                · -- c65 False
                  refine AC.skip ?_
                  refine AC.seq ?_
                  refine AC.region ?_
                  refine AO.yld _ (Yld.move rfl) rfl rfl rfl ?_
                  refine AO.callW (wantedN rfl) [3] [] [0] rfl rfl Try.call21 rfl (spec_DrawMedianMachine_c) (.own rfl) rfl (fun _ => rfl) trivial rfl (fun _ => rfl) (fun _ => rfl) (fun ms67 hms67 => ?_)
                  have hml2 := hms67.1
                  have hnm2 := hms67.names
                  refine AO.yld _ (Yld.assign rfl) rfl rfl rfl ?_
                  refine AO.nil ?_
                  refine AC.seq ?_
                  refine AC.region ?_
                  refine AO.yld _ (Yld.move rfl) rfl rfl rfl ?_
                  refine AO.yld _ (Yld.call rfl rfl Try.call22 rfl rfl rfl (impl_MedianMachine_c (by omega) hnm2) rfl) rfl rfl rfl ?_
                  refine AO.yld _ (Yld.move rfl) rfl rfl rfl ?_
                  refine AO.yld _ (Yld.extract rfl rfl rfl) rfl rfl rfl ?_
                  refine AO.yld _ (Yld.extract rfl rfl rfl) rfl rfl rfl ?_
                  refine AO.yld _ (Yld.assign rfl) rfl rfl rfl ?_
                  refine AO.yld _ (Yld.assign rfl) rfl rfl rfl ?_
                  refine AO.nil ?_
                  refine AC.seq ?_
                  refine AC.seq ?_
                  refine AC.region ?_
                  refine AO.yld _ (Yld.move rfl) rfl rfl rfl ?_
                  refine AO.yld _ (Yld.int rfl rfl rfl) rfl rfl rfl ?_
                  refine AO.nil ?_
                  refine AC.cond _ rfl (fun c74 => ?_) (fun c74 => ?_)
                  · -- c74 True
                    have h0m : ¬ (medianM ms67).2 = 0 := by simpa using c74
                    have hmb := med_bad h0m
                    refine AC.seq ?_
                    refine AC.region ?_
                    refine AO.yld _ (Yld.move rfl) rfl rfl rfl ?_
                    refine AO.yld _ (Yld.int rfl rfl rfl) rfl rfl rfl ?_
                    refine AO.yld _ (Yld.assign rfl) rfl rfl rfl ?_
                    refine AO.nil ?_
                    refine Pure.ret Try.results5 (RVs.cons (RV.tmp rfl) RVs.nil) rfl ?_
                    first | rfl | (rw [hmb]; rfl) | (refine cb ?_; first | exact (decide_eq_true (by rw [hM]; omega)).symm | exact decide_eq_true (by rw [hM]; omega) | (exfalso; rw [hM] at s123; simp at s123; omega))
                  · -- c74 False
                    have h0m : (medianM ms67).2 = 0 := by simpa using c74
                    obtain ⟨jm, ym, mf1, mf2, mf3, mf4, mf5⟩ := med_facts h0m
                    have hM : (ms67.map encMach).length = ms67.length := List.length_map ..
                    have hjm := lt_of_get mf2
                    have hrowM := map_row (enc := encMach) mf2
                    refine AC.skip ?_
                    refine AC.seq ?_
                    refine AC.seq ?_
                    refine AC.region ?_
                    refine AO.yld _ (Yld.move rfl) rfl rfl rfl ?_
                    refine AO.yld _ (Yld.int rfl rfl rfl) rfl rfl rfl ?_
                    refine AO.yld _ (Yld.move rfl) rfl rfl rfl ?_
                    refine AO.splitAt 79 _ rfl (fun s79 => ?_) (fun s79 => ?_)
                    · -- s79 True
                      exfalso; rw [mf1] at s79; simp at s79; omega
                    · -- s79 False
                      refine AO.yldG _ (Yld.move rfl) rfl rfl rfl rfl rfl ?_
                      refine AO.yldG _ (Yld.move rfl) rfl rfl rfl rfl rfl ?_
                      refine AO.yldG _ (Yld.len Try.underlying38 rfl rfl) rfl rfl rfl rfl rfl ?_
                      refine AO.yldG _ (Yld.int rfl rfl rfl) rfl rfl rfl rfl rfl ?_
                      refine AO.yld _ (Yld.pickF rfl rfl) rfl rfl rfl ?_
                      refine AO.nil ?_
                      refine AC.cond _ rfl (fun c84 => ?_) (fun c84 => ?_)
                      · -- c84 True
                        exfalso; rw [mf1, hM] at c84; simp at c84; omega
                      · -- c84 False
                        refine AC.skip ?_
                        refine AC.seq ?_
                        refine AC.region ?_
                        refine AO.yld _ (Yld.assign rfl) rfl rfl rfl ?_
                        refine AO.nil ?_
                        refine AC.seq ?_
                        refine AC.region ?_
                        refine AO.yld _ (Yld.assign rfl) rfl rfl rfl ?_
                        refine AO.nil ?_
                        refine AC.seq ?_
                        refine AC.seq ?_
                        refine AC.region ?_
                        refine AO.yld _ (Yld.assign rfl) rfl rfl rfl ?_
                        refine AO.nil ?_
                        refine AC.block ?_
                        refine AC.loopC [(4, _), (13, _), (14, _)] [(0, _), (1, _), (2, _), (3, _)] (fun (k : Nat) => [(18, .p (.v (.int .i64 (k : Int)))), (16, .p (.v (.int .i64 (cntB (lowO ym.offset) ms67 k)))), (17, .p (.v (.int .i64 (cntB (highO ym.offset) ms67 k))))]) (fun (k : Nat) => []) (fun (k : Nat) => k ≤ ms67.length) (fun (k : Nat) => ms67.length - k) 0 ⟨rfl, rfl, rfl, trivial⟩ ⟨rfl, rfl, rfl, rfl, trivial⟩ ⟨rfl, rfl, rfl, trivial⟩ trivial ?_ (fun k hJ => ?_)
                        · exact Nat.zero_le _
                        · -- round
                          refine AC.seq ?_
                          refine AC.seq ?_
                          refine AC.region ?_
                          refine AO.yld _ (Yld.move rfl) rfl rfl rfl ?_
                          refine AO.yld _ (Yld.move rfl) rfl rfl rfl ?_
                          refine AO.yld _ (Yld.len Try.underlying38 rfl rfl) rfl rfl rfl ?_
                          refine AO.yld _ (Yld.int rfl rfl rfl) rfl rfl rfl ?_
                          refine AO.nil ?_
                          refine AC.cond _ rfl (fun c88 => ?_) (fun c88 => ?_)
                          · -- c88 True
                            have hk : k < ms67.length := by have h := c88; rw [hM] at h; simpa using h
                            obtain ⟨y, hy⟩ := get_some hk
                            have hrow := map_row (enc := encMach) hy
                            have hb1 := cntB_lim (lowO ym.offset) ms67 k
                            have hb2 := cntB_lim (highO ym.offset) ms67 k
                            refine AC.skip ?_
                            refine AC.seq ?_
                            refine AC.block ?_
                            refine AC.seq ?_
                            refine AC.seq ?_
                            refine AC.draw (by kernel_rfl) (by kernel_rfl) ?_
                            refine AO.yld _ (Yld.move rfl) rfl rfl rfl ?_
                            refine AO.yld _ (Yld.move rfl) rfl rfl rfl ?_
                            refine AO.yld _ (Yld.indexVec Try.underlying38 Try.sizeOf48 rfl rfl rfl rfl (by rw [List.length_map]; omega)) rfl rfl rfl ?_
                            refine AO.yld _ (Yld.fieldAddr Try.underlying48 rfl rfl Try.sizeOf2 rfl (behind_el rfl hrow) rfl) rfl rfl rfl ?_
                            refine AO.yld _ (Yld.load Try.isAgg2 rfl (Eq.trans (behind_el rfl hrow) rfl)) rfl rfl rfl ?_
                            refine AO.yld _ (Yld.move rfl) rfl rfl rfl ?_
                            refine AO.yld _ (Yld.move rfl) rfl rfl rfl ?_
                            refine AO.yld _ (Yld.indexVec Try.underlying38 Try.sizeOf48 rfl rfl rfl mf1 (by rw [List.length_map]; omega)) rfl rfl rfl ?_
                            refine AO.yld _ (Yld.fieldAddr Try.underlying48 rfl rfl Try.sizeOf2 rfl (behind_el rfl hrowM) rfl) rfl rfl rfl ?_
                            refine AO.yld _ (Yld.load Try.isAgg2 rfl (Eq.trans (behind_el rfl hrowM) rfl)) rfl rfl rfl ?_
                            refine AO.yld _ (Yld.int rfl rfl rfl) rfl rfl rfl ?_
                            refine AO.nil ?_
                            refine AC.cond _ rfl (fun c101 => ?_) (fun c101 => ?_)
                            · -- c101 True
                              refine AC.region ?_
                              refine AO.yld _ (Yld.move rfl) rfl rfl rfl ?_
                              refine AO.yld _ (Yld.add rfl rfl (by omega) (by omega)) rfl rfl rfl ?_
                              refine AO.yld _ (Yld.assign rfl) rfl rfl rfl ?_
                              refine AO.nil ?_
                              refine AC.seq ?_
                              refine AC.draw (by kernel_rfl) (by kernel_rfl) ?_
                              refine AO.yld _ (Yld.move rfl) rfl rfl rfl ?_
                              refine AO.yld _ (Yld.move rfl) rfl rfl rfl ?_
                              refine AO.yld _ (Yld.indexVec Try.underlying38 Try.sizeOf48 rfl rfl rfl rfl (by rw [List.length_map]; omega)) rfl rfl rfl ?_
                              refine AO.yld _ (Yld.fieldAddr Try.underlying48 rfl rfl Try.sizeOf2 rfl (behind_el rfl hrow) rfl) rfl rfl rfl ?_
                              refine AO.yld _ (Yld.load Try.isAgg2 rfl (Eq.trans (behind_el rfl hrow) rfl)) rfl rfl rfl ?_
                              refine AO.yld _ (Yld.move rfl) rfl rfl rfl ?_
                              refine AO.yld _ (Yld.move rfl) rfl rfl rfl ?_
                              refine AO.yld _ (Yld.indexVec Try.underlying38 Try.sizeOf48 rfl rfl rfl mf1 (by rw [List.length_map]; omega)) rfl rfl rfl ?_
                              refine AO.yld _ (Yld.fieldAddr Try.underlying48 rfl rfl Try.sizeOf2 rfl (behind_el rfl hrowM) rfl) rfl rfl rfl ?_
                              refine AO.yld _ (Yld.load Try.isAgg2 rfl (Eq.trans (behind_el rfl hrowM) rfl)) rfl rfl rfl ?_
                              refine AO.yld _ (Yld.int rfl rfl rfl) rfl rfl rfl ?_
                              refine AO.nil ?_
                              refine AC.cond _ rfl (fun c114 => ?_) (fun c114 => ?_)
                              · -- c114 True
                                refine AC.region ?_
                                refine AO.yld _ (Yld.move rfl) rfl rfl rfl ?_
                                refine AO.yld _ (Yld.add rfl rfl (by omega) (by omega)) rfl rfl rfl ?_
                                refine AO.yld _ (Yld.assign rfl) rfl rfl rfl ?_
                                refine AO.nil ?_
                                refine AC.mark ?_
                                refine AC.region ?_
                                refine AO.yld _ (Yld.move rfl) rfl rfl rfl ?_
                                refine AO.yld _ (Yld.add rfl rfl (by omega) (by omega)) rfl rfl rfl ?_
                                refine AO.yld _ (Yld.assign rfl) rfl rfl rfl ?_
                                refine AO.nil ?_
                                refine AC.back ⟨k + 1, ?_, ?_, ⟨?_, ?_, ?_, trivial⟩, trivial, ⟨rfl, rfl, rfl, trivial⟩, ⟨rfl, rfl, rfl, rfl, trivial⟩⟩
                                · exact hk
                                · omega
                                · rfl
                                · show some (AV.p (PV.v (Value.int IntKind.i64 _))) = _; first | rw [cntB_T hy (by unfold lowO; simpa using c101)] | rw [cntB_F hy (by unfold lowO; simpa using c101)]
                                · show some (AV.p (PV.v (Value.int IntKind.i64 _))) = _; first | rw [cntB_T hy (by unfold highO; simpa using c114)] | rw [cntB_F hy (by unfold highO; simpa using c114)]
                              · -- c114 False
                                refine AC.skip ?_
                                refine AC.mark ?_
                                refine AC.region ?_
                                refine AO.yld _ (Yld.move rfl) rfl rfl rfl ?_
                                refine AO.yld _ (Yld.add rfl rfl (by omega) (by omega)) rfl rfl rfl ?_
                                refine AO.yld _ (Yld.assign rfl) rfl rfl rfl ?_
                                refine AO.nil ?_
                                refine AC.back ⟨k + 1, ?_, ?_, ⟨?_, ?_, ?_, trivial⟩, trivial, ⟨rfl, rfl, rfl, trivial⟩, ⟨rfl, rfl, rfl, rfl, trivial⟩⟩
                                · exact hk
                                · omega
                                · rfl
                                · show some (AV.p (PV.v (Value.int IntKind.i64 _))) = _; first | rw [cntB_T hy (by unfold lowO; simpa using c101)] | rw [cntB_F hy (by unfold lowO; simpa using c101)]
                                · show some (AV.p (PV.v (Value.int IntKind.i64 _))) = _; first | rw [cntB_T hy (by unfold highO; simpa using c114)] | rw [cntB_F hy (by unfold highO; simpa using c114)]
                            · -- c101 False
                              refine AC.skip ?_
                              refine AC.seq ?_
                              refine AC.draw (by kernel_rfl) (by kernel_rfl) ?_
                              refine AO.yld _ (Yld.move rfl) rfl rfl rfl ?_
                              refine AO.yld _ (Yld.move rfl) rfl rfl rfl ?_
                              refine AO.yld _ (Yld.indexVec Try.underlying38 Try.sizeOf48 rfl rfl rfl rfl (by rw [List.length_map]; omega)) rfl rfl rfl ?_
                              refine AO.yld _ (Yld.fieldAddr Try.underlying48 rfl rfl Try.sizeOf2 rfl (behind_el rfl hrow) rfl) rfl rfl rfl ?_
                              refine AO.yld _ (Yld.load Try.isAgg2 rfl (Eq.trans (behind_el rfl hrow) rfl)) rfl rfl rfl ?_
                              refine AO.yld _ (Yld.move rfl) rfl rfl rfl ?_
                              refine AO.yld _ (Yld.move rfl) rfl rfl rfl ?_
                              refine AO.yld _ (Yld.indexVec Try.underlying38 Try.sizeOf48 rfl rfl rfl mf1 (by rw [List.length_map]; omega)) rfl rfl rfl ?_
                              refine AO.yld _ (Yld.fieldAddr Try.underlying48 rfl rfl Try.sizeOf2 rfl (behind_el rfl hrowM) rfl) rfl rfl rfl ?_
                              refine AO.yld _ (Yld.load Try.isAgg2 rfl (Eq.trans (behind_el rfl hrowM) rfl)) rfl rfl rfl ?_
                              refine AO.yld _ (Yld.int rfl rfl rfl) rfl rfl rfl ?_
                              refine AO.nil ?_
                              refine AC.cond _ rfl (fun c114 => ?_) (fun c114 => ?_)
                              · -- c114 True
                                refine AC.region ?_
                                refine AO.yld _ (Yld.move rfl) rfl rfl rfl ?_
                                refine AO.yld _ (Yld.add rfl rfl (by omega) (by omega)) rfl rfl rfl ?_
                                refine AO.yld _ (Yld.assign rfl) rfl rfl rfl ?_
                                refine AO.nil ?_
                                refine AC.mark ?_
                                refine AC.region ?_
                                refine AO.yld _ (Yld.move rfl) rfl rfl rfl ?_
                                refine AO.yld _ (Yld.add rfl rfl (by omega) (by omega)) rfl rfl rfl ?_
                                refine AO.yld _ (Yld.assign rfl) rfl rfl rfl ?_
                                refine AO.nil ?_
                                refine AC.back ⟨k + 1, ?_, ?_, ⟨?_, ?_, ?_, trivial⟩, trivial, ⟨rfl, rfl, rfl, trivial⟩, ⟨rfl, rfl, rfl, rfl, trivial⟩⟩
                                · exact hk
                                · omega
                                · rfl
                                · show some (AV.p (PV.v (Value.int IntKind.i64 _))) = _; first | rw [cntB_T hy (by unfold lowO; simpa using c101)] | rw [cntB_F hy (by unfold lowO; simpa using c101)]
                                · show some (AV.p (PV.v (Value.int IntKind.i64 _))) = _; first | rw [cntB_T hy (by unfold highO; simpa using c114)] | rw [cntB_F hy (by unfold highO; simpa using c114)]
                              · -- c114 False
                                refine AC.skip ?_
                                refine AC.mark ?_
                                refine AC.region ?_
                                refine AO.yld _ (Yld.move rfl) rfl rfl rfl ?_
                                refine AO.yld _ (Yld.add rfl rfl (by omega) (by omega)) rfl rfl rfl ?_
                                refine AO.yld _ (Yld.assign rfl) rfl rfl rfl ?_
                                refine AO.nil ?_
                                refine AC.back ⟨k + 1, ?_, ?_, ⟨?_, ?_, ?_, trivial⟩, trivial, ⟨rfl, rfl, rfl, trivial⟩, ⟨rfl, rfl, rfl, rfl, trivial⟩⟩
                                · exact hk
                                · omega
                                · rfl
                                · show some (AV.p (PV.v (Value.int IntKind.i64 _))) = _; first | rw [cntB_T hy (by unfold lowO; simpa using c101)] | rw [cntB_F hy (by unfold lowO; simpa using c101)]
                                · show some (AV.p (PV.v (Value.int IntKind.i64 _))) = _; first | rw [cntB_T hy (by unfold highO; simpa using c114)] | rw [cntB_F hy (by unfold highO; simpa using c114)]
                          · -- c88 False
                            obtain rfl : k = ms67.length := by have h := c88; rw [hM] at h; simp at h; omega
                            have hb1 := cntB_lim (lowO ym.offset) ms67 ms67.length
                            have hb2 := cntB_lim (highO ym.offset) ms67 ms67.length
                            refine AC.exit rfl ?_
                            refine AC.seq ?_
                            refine AC.region ?_
                            refine AO.yld _ (Yld.move rfl) rfl rfl rfl ?_
                            refine AO.yld _ (Yld.mul rfl rfl (by omega) (by omega)) rfl rfl rfl ?_
                            refine AO.yld _ (Yld.move rfl) rfl rfl rfl ?_
                            refine AO.yld _ (Yld.len Try.underlying38 rfl rfl) rfl rfl rfl ?_
                            refine AO.yld _ (Yld.sub rfl rfl (by omega) (by omega)) rfl rfl rfl ?_
                            refine AO.yld _ (Yld.int rfl rfl rfl) rfl rfl rfl ?_
                            refine AO.yld _ (Yld.move rfl) rfl rfl rfl ?_
                            refine AO.splitAt 123 _ rfl (fun s123 => ?_) (fun s123 => ?_)
                            · -- s123 True
                              refine AO.yldG _ (Yld.move rfl) rfl rfl rfl rfl rfl ?_
                              refine AO.yldG _ (Yld.mul rfl rfl (by omega) (by omega)) rfl rfl rfl rfl rfl ?_
                              refine AO.yldG _ (Yld.move rfl) rfl rfl rfl rfl rfl ?_
                              refine AO.yldG _ (Yld.len Try.underlying38 rfl rfl) rfl rfl rfl rfl rfl ?_
                              refine AO.yldG _ (Yld.int rfl rfl rfl) rfl rfl rfl rfl rfl ?_
                              refine AO.yld _ (Yld.pickT rfl rfl) rfl rfl rfl ?_
                              refine AO.yld _ (Yld.assign rfl) rfl rfl rfl ?_
                              refine AO.nil ?_
                              refine Pure.ret Try.results5 (RVs.cons (RV.tmp rfl) RVs.nil) rfl ?_
                              first | rfl | (rw [hmb]; rfl) | (refine cb ?_; first | exact (decide_eq_true (by rw [hM]; omega)).symm | exact decide_eq_true (by rw [hM]; omega) | (exfalso; rw [hM] at s123; simp at s123; omega))
                            · -- s123 False
                              refine AO.skipT rfl rfl rfl rfl rfl ?_
                              refine AO.skipT rfl rfl rfl rfl rfl ?_
                              refine AO.skipT rfl rfl rfl rfl rfl ?_
                              refine AO.skipT rfl rfl rfl rfl rfl ?_
                              refine AO.skipT rfl rfl rfl rfl rfl ?_
                              refine AO.yld _ (Yld.pickF rfl rfl) rfl rfl rfl ?_
                              refine AO.yld _ (Yld.assign rfl) rfl rfl rfl ?_
                              refine AO.nil ?_
                              refine Pure.ret Try.results5 (RVs.cons (RV.tmp rfl) RVs.nil) rfl ?_
                              first | rfl | (rw [hmb]; rfl) | (refine cb ?_; first | exact (decide_eq_true (by rw [hM]; omega)).symm | exact decide_eq_true (by rw [hM]; omega) | (exfalso; rw [hM] at s123; simp at s123; omega))
            · -- c51 False
              refine AC.skip ?_
              refine AC.seq ?_
              refine AC.region ?_
              refine AO.yld _ (Yld.move rfl) rfl rfl rfl ?_
              refine AO.callW (wantedN rfl) [2] [] [0] rfl rfl Try.call21 rfl (spec_DrawMedianMachine_c) (.own rfl) rfl (fun _ => rfl) trivial rfl (fun _ => rfl) (fun _ => rfl) (fun ms67 hms67 => ?_)
              have hml2 := hms67.1
              have hnm2 := hms67.names
              refine AO.yld _ (Yld.assign rfl) rfl rfl rfl ?_
              refine AO.nil ?_
              refine AC.seq ?_
              refine AC.region ?_
              refine AO.yld _ (Yld.move rfl) rfl rfl rfl ?_
              refine AO.yld _ (Yld.call rfl rfl Try.call22 rfl rfl rfl (impl_MedianMachine_c (by omega) hnm2) rfl) rfl rfl rfl ?_
              refine AO.yld _ (Yld.move rfl) rfl rfl rfl ?_
              refine AO.yld _ (Yld.extract rfl rfl rfl) rfl rfl rfl ?_
              refine AO.yld _ (Yld.extract rfl rfl rfl) rfl rfl rfl ?_
              refine AO.yld _ (Yld.assign rfl) rfl rfl rfl ?_
              refine AO.yld _ (Yld.assign rfl) rfl rfl rfl ?_
              refine AO.nil ?_
              refine AC.seq ?_
              refine AC.seq ?_
              refine AC.region ?_
              refine AO.yld _ (Yld.move rfl) rfl rfl rfl ?_
              refine AO.yld _ (Yld.int rfl rfl rfl) rfl rfl rfl ?_
              refine AO.nil ?_
              refine AC.cond _ rfl (fun c74 => ?_) (fun c74 => ?_)
              · -- c74 True
                have h0m : ¬ (medianM ms67).2 = 0 := by simpa using c74
                have hmb := med_bad h0m
                refine AC.seq ?_
                refine AC.region ?_
                refine AO.yld _ (Yld.move rfl) rfl rfl rfl ?_
                refine AO.yld _ (Yld.int rfl rfl rfl) rfl rfl rfl ?_
                refine AO.yld _ (Yld.assign rfl) rfl rfl rfl ?_
                refine AO.nil ?_
                refine Pure.ret Try.results5 (RVs.cons (RV.tmp rfl) RVs.nil) rfl ?_
                first | rfl | (rw [hmb]; rfl) | (refine cb ?_; first | exact (decide_eq_true (by rw [hM]; omega)).symm | exact decide_eq_true (by rw [hM]; omega) | (exfalso; rw [hM] at s123; simp at s123; omega))
              · -- c74 False
                have h0m : (medianM ms67).2 = 0 := by simpa using c74
                obtain ⟨jm, ym, mf1, mf2, mf3, mf4, mf5⟩ := med_facts h0m
                have hM : (ms67.map encMach).length = ms67.length := List.length_map ..
                have hjm := lt_of_get mf2
                have hrowM := map_row (enc := encMach) mf2
                refine AC.skip ?_
                refine AC.seq ?_
                refine AC.seq ?_
                refine AC.region ?_
                refine AO.yld _ (Yld.move rfl) rfl rfl rfl ?_
                refine AO.yld _ (Yld.int rfl rfl rfl) rfl rfl rfl ?_
                refine AO.yld _ (Yld.move rfl) rfl rfl rfl ?_
                refine AO.splitAt 79 _ rfl (fun s79 => ?_) (fun s79 => ?_)
                · -- s79 True
                  exfalso; rw [mf1] at s79; simp at s79; omega
                · -- s79 False
                  refine AO.yldG _ (Yld.move rfl) rfl rfl rfl rfl rfl ?_
                  refine AO.yldG _ (Yld.move rfl) rfl rfl rfl rfl rfl ?_
                  refine AO.yldG _ (Yld.len Try.underlying38 rfl rfl) rfl rfl rfl rfl rfl ?_
                  refine AO.yldG _ (Yld.int rfl rfl rfl) rfl rfl rfl rfl rfl ?_
                  refine AO.yld _ (Yld.pickF rfl rfl) rfl rfl rfl ?_
                  refine AO.nil ?_
                  refine AC.cond _ rfl (fun c84 => ?_) (fun c84 => ?_)
                  · -- c84 True
                    exfalso; rw [mf1, hM] at c84; simp at c84; omega
                  · -- c84 False
                    refine AC.skip ?_
                    refine AC.seq ?_
                    refine AC.region ?_
                    refine AO.yld _ (Yld.assign rfl) rfl rfl rfl ?_
                    refine AO.nil ?_
                    refine AC.seq ?_
                    refine AC.region ?_
                    refine AO.yld _ (Yld.assign rfl) rfl rfl rfl ?_
                    refine AO.nil ?_
                    refine AC.seq ?_
                    refine AC.seq ?_
                    refine AC.region ?_
                    refine AO.yld _ (Yld.assign rfl) rfl rfl rfl ?_
                    refine AO.nil ?_
                    refine AC.block ?_
                    refine AC.loopC [(4, _), (13, _), (14, _)] [(0, _), (1, _), (2, _)] (fun (k : Nat) => [(18, .p (.v (.int .i64 (k : Int)))), (16, .p (.v (.int .i64 (cntB (lowO ym.offset) ms67 k)))), (17, .p (.v (.int .i64 (cntB (highO ym.offset) ms67 k))))]) (fun (k : Nat) => []) (fun (k : Nat) => k ≤ ms67.length) (fun (k : Nat) => ms67.length - k) 0 ⟨rfl, rfl, rfl, trivial⟩ ⟨rfl, rfl, rfl, trivial⟩ ⟨rfl, rfl, rfl, trivial⟩ trivial ?_ (fun k hJ => ?_)
                    · exact Nat.zero_le _
                    · -- round
                      refine AC.seq ?_
                      refine AC.seq ?_
                      refine AC.region ?_
                      refine AO.yld _ (Yld.move rfl) rfl rfl rfl ?_
                      refine AO.yld _ (Yld.move rfl) rfl rfl rfl ?_
                      refine AO.yld _ (Yld.len Try.underlying38 rfl rfl) rfl rfl rfl ?_
                      refine AO.yld _ (Yld.int rfl rfl rfl) rfl rfl rfl ?_
                      refine AO.nil ?_
                      refine AC.cond _ rfl (fun c88 => ?_) (fun c88 => ?_)
                      · -- c88 True
                        have hk : k < ms67.length := by have h := c88; rw [hM] at h; simpa using h
                        obtain ⟨y, hy⟩ := get_some hk
                        have hrow := map_row (enc := encMach) hy
                        have hb1 := cntB_lim (lowO ym.offset) ms67 k
                        have hb2 := cntB_lim (highO ym.offset) ms67 k
                        refine AC.skip ?_
                        refine AC.seq ?_
                        refine AC.block ?_
                        refine AC.seq ?_
                        refine AC.seq ?_
                        refine AC.draw (by kernel_rfl) (by kernel_rfl) ?_
                        refine AO.yld _ (Yld.move rfl) rfl rfl rfl ?_
                        refine AO.yld _ (Yld.move rfl) rfl rfl rfl ?_
                        refine AO.yld _ (Yld.indexVec Try.underlying38 Try.sizeOf48 rfl rfl rfl rfl (by rw [List.length_map]; omega)) rfl rfl rfl ?_
                        refine AO.yld _ (Yld.fieldAddr Try.underlying48 rfl rfl Try.sizeOf2 rfl (behind_el rfl hrow) rfl) rfl rfl rfl ?_
                        refine AO.yld _ (Yld.load Try.isAgg2 rfl (Eq.trans (behind_el rfl hrow) rfl)) rfl rfl rfl ?_
                        refine AO.yld _ (Yld.move rfl) rfl rfl rfl ?_
                        refine AO.yld _ (Yld.move rfl) rfl rfl rfl ?_
                        refine AO.yld _ (Yld.indexVec Try.underlying38 Try.sizeOf48 rfl rfl rfl mf1 (by rw [List.length_map]; omega)) rfl rfl rfl ?_
                        refine AO.yld _ (Yld.fieldAddr Try.underlying48 rfl rfl Try.sizeOf2 rfl (behind_el rfl hrowM) rfl) rfl rfl rfl ?_
                        refine AO.yld _ (Yld.load Try.isAgg2 rfl (Eq.trans (behind_el rfl hrowM) rfl)) rfl rfl rfl ?_
                        refine AO.yld _ (Yld.int rfl rfl rfl) rfl rfl rfl ?_
                        refine AO.nil ?_
                        refine AC.cond _ rfl (fun c101 => ?_) (fun c101 => ?_)
                        · -- c101 True
                          refine AC.region ?_
                          refine AO.yld _ (Yld.move rfl) rfl rfl rfl ?_
                          refine AO.yld _ (Yld.add rfl rfl (by omega) (by omega)) rfl rfl rfl ?_
                          refine AO.yld _ (Yld.assign rfl) rfl rfl rfl ?_
                          refine AO.nil ?_
                          refine AC.seq ?_
                          refine AC.draw (by kernel_rfl) (by kernel_rfl) ?_
                          refine AO.yld _ (Yld.move rfl) rfl rfl rfl ?_
                          refine AO.yld _ (Yld.move rfl) rfl rfl rfl ?_
                          refine AO.yld _ (Yld.indexVec Try.underlying38 Try.sizeOf48 rfl rfl rfl rfl (by rw [List.length_map]; omega)) rfl rfl rfl ?_
                          refine AO.yld _ (Yld.fieldAddr Try.underlying48 rfl rfl Try.sizeOf2 rfl (behind_el rfl hrow) rfl) rfl rfl rfl ?_
                          refine AO.yld _ (Yld.load Try.isAgg2 rfl (Eq.trans (behind_el rfl hrow) rfl)) rfl rfl rfl ?_
                          refine AO.yld _ (Yld.move rfl) rfl rfl rfl ?_
                          refine AO.yld _ (Yld.move rfl) rfl rfl rfl ?_
                          refine AO.yld _ (Yld.indexVec Try.underlying38 Try.sizeOf48 rfl rfl rfl mf1 (by rw [List.length_map]; omega)) rfl rfl rfl ?_
                          refine AO.yld _ (Yld.fieldAddr Try.underlying48 rfl rfl Try.sizeOf2 rfl (behind_el rfl hrowM) rfl) rfl rfl rfl ?_
                          refine AO.yld _ (Yld.load Try.isAgg2 rfl (Eq.trans (behind_el rfl hrowM) rfl)) rfl rfl rfl ?_
                          refine AO.yld _ (Yld.int rfl rfl rfl) rfl rfl rfl ?_
                          refine AO.nil ?_
                          refine AC.cond _ rfl (fun c114 => ?_) (fun c114 => ?_)
                          · -- c114 True
                            refine AC.region ?_
                            refine AO.yld _ (Yld.move rfl) rfl rfl rfl ?_
                            refine AO.yld _ (Yld.add rfl rfl (by omega) (by omega)) rfl rfl rfl ?_
                            refine AO.yld _ (Yld.assign rfl) rfl rfl rfl ?_
                            refine AO.nil ?_
                            refine AC.mark ?_
                            refine AC.region ?_
                            refine AO.yld _ (Yld.move rfl) rfl rfl rfl ?_
                            refine AO.yld _ (Yld.add rfl rfl (by omega) (by omega)) rfl rfl rfl ?_
                            refine AO.yld _ (Yld.assign rfl) rfl rfl rfl ?_
                            refine AO.nil ?_
                            refine AC.back ⟨k + 1, ?_, ?_, ⟨?_, ?_, ?_, trivial⟩, trivial, ⟨rfl, rfl, rfl, trivial⟩, ⟨rfl, rfl, rfl, trivial⟩⟩
                            · exact hk
                            · omega
                            · rfl
                            · show some (AV.p (PV.v (Value.int IntKind.i64 _))) = _; first | rw [cntB_T hy (by unfold lowO; simpa using c101)] | rw [cntB_F hy (by unfold lowO; simpa using c101)]
                            · show some (AV.p (PV.v (Value.int IntKind.i64 _))) = _; first | rw [cntB_T hy (by unfold highO; simpa using c114)] | rw [cntB_F hy (by unfold highO; simpa using c114)]
                          · -- c114 False
                            refine AC.skip ?_
                            refine AC.mark ?_
                            refine AC.region ?_
                            refine AO.yld _ (Yld.move rfl) rfl rfl rfl ?_
                            refine AO.yld _ (Yld.add rfl rfl (by omega) (by omega)) rfl rfl rfl ?_
                            refine AO.yld _ (Yld.assign rfl) rfl rfl rfl ?_
                            refine AO.nil ?_
                            refine AC.back ⟨k + 1, ?_, ?_, ⟨?_, ?_, ?_, trivial⟩, trivial, ⟨rfl, rfl, rfl, trivial⟩, ⟨rfl, rfl, rfl, trivial⟩⟩
                            · exact hk
                            · omega
                            · rfl
                            · show some (AV.p (PV.v (Value.int IntKind.i64 _))) = _; first | rw [cntB_T hy (by unfold lowO; simpa using c101)] | rw [cntB_F hy (by unfold lowO; simpa using c101)]
                            · show some (AV.p (PV.v (Value.int IntKind.i64 _))) = _; first | rw [cntB_T hy (by unfold highO; simpa using c114)] | rw [cntB_F hy (by unfold highO; simpa using c114)]
                        · -- c101 False
                          refine AC.skip ?_
                          refine AC.seq ?_
                          refine AC.draw (by kernel_rfl) (by kernel_rfl) ?_
                          refine AO.yld _ (Yld.move rfl) rfl rfl rfl ?_
                          refine AO.yld _ (Yld.move rfl) rfl rfl rfl ?_
                          refine AO.yld _ (Yld.indexVec Try.underlying38 Try.sizeOf48 rfl rfl rfl rfl (by rw [List.length_map]; omega)) rfl rfl rfl ?_
                          refine AO.yld _ (Yld.fieldAddr Try.underlying48 rfl rfl Try.sizeOf2 rfl (behind_el rfl hrow) rfl) rfl rfl rfl ?_
                          refine AO.yld _ (Yld.load Try.isAgg2 rfl (Eq.trans (behind_el rfl hrow) rfl)) rfl rfl rfl ?_
                          refine AO.yld _ (Yld.move rfl) rfl rfl rfl ?_
                          refine AO.yld _ (Yld.move rfl) rfl rfl rfl ?_
                          refine AO.yld _ (Yld.indexVec Try.underlying38 Try.sizeOf48 rfl rfl rfl mf1 (by rw [List.length_map]; omega)) rfl rfl rfl ?_
                          refine AO.yld _ (Yld.fieldAddr Try.underlying48 rfl rfl Try.sizeOf2 rfl (behind_el rfl hrowM) rfl) rfl rfl rfl ?_
                          refine AO.yld _ (Yld.load Try.isAgg2 rfl (Eq.trans (behind_el rfl hrowM) rfl)) rfl rfl rfl ?_
                          refine AO.yld _ (Yld.int rfl rfl rfl) rfl rfl rfl ?_
                          refine AO.nil ?_
                          refine AC.cond _ rfl (fun c114 => ?_) (fun c114 => ?_)
                          · -- c114 True
                            refine AC.region ?_
                            refine AO.yld _ (Yld.move rfl) rfl rfl rfl ?_
                            refine AO.yld _ (Yld.add rfl rfl (by omega) (by omega)) rfl rfl rfl ?_
                            refine AO.yld _ (Yld.assign rfl) rfl rfl rfl ?_
                            refine AO.nil ?_
                            refine AC.mark ?_
                            refine AC.region ?_
                            refine AO.yld _ (Yld.move rfl) rfl rfl rfl ?_
                            refine AO.yld _ (Yld.add rfl rfl (by omega) (by omega)) rfl rfl rfl ?_
                            refine AO.yld _ (Yld.assign rfl) rfl rfl rfl ?_
                            refine AO.nil ?_
                            refine AC.back ⟨k + 1, ?_, ?_, ⟨?_, ?_, ?_, trivial⟩, trivial, ⟨rfl, rfl, rfl, trivial⟩, ⟨rfl, rfl, rfl, trivial⟩⟩
                            · exact hk
                            · omega
                            · rfl
                            · show some (AV.p (PV.v (Value.int IntKind.i64 _))) = _; first | rw [cntB_T hy (by unfold lowO; simpa using c101)] | rw [cntB_F hy (by unfold lowO; simpa using c101)]
                            · show some (AV.p (PV.v (Value.int IntKind.i64 _))) = _; first | rw [cntB_T hy (by unfold highO; simpa using c114)] | rw [cntB_F hy (by unfold highO; simpa using c114)]
                          · -- c114 False
                            refine AC.skip ?_
                            refine AC.mark ?_
                            refine AC.region ?_
                            refine AO.yld _ (Yld.move rfl) rfl rfl rfl ?_
                            refine AO.yld _ (Yld.add rfl rfl (by omega) (by omega)) rfl rfl rfl ?_
                            refine AO.yld _ (Yld.assign rfl) rfl rfl rfl ?_
                            refine AO.nil ?_
                            refine AC.back ⟨k + 1, ?_, ?_, ⟨?_, ?_, ?_, trivial⟩, trivial, ⟨rfl, rfl, rfl, trivial⟩, ⟨rfl, rfl, rfl, trivial⟩⟩
                            · exact hk
                            · omega
                            · rfl
                            · show some (AV.p (PV.v (Value.int IntKind.i64 _))) = _; first | rw [cntB_T hy (by unfold lowO; simpa using c101)] | rw [cntB_F hy (by unfold lowO; simpa using c101)]
                            · show some (AV.p (PV.v (Value.int IntKind.i64 _))) = _; first | rw [cntB_T hy (by unfold highO; simpa using c114)] | rw [cntB_F hy (by unfold highO; simpa using c114)]
                      · -- c88 False
                        obtain rfl : k = ms67.length := by have h := c88; rw [hM] at h; simp at h; omega
                        have hb1 := cntB_lim (lowO ym.offset) ms67 ms67.length
                        have hb2 := cntB_lim (highO ym.offset) ms67 ms67.length
                        refine AC.exit rfl ?_
                        refine AC.seq ?_
                        refine AC.region ?_
                        refine AO.yld _ (Yld.move rfl) rfl rfl rfl ?_
                        refine AO.yld _ (Yld.mul rfl rfl (by omega) (by omega)) rfl rfl rfl ?_
                        refine AO.yld _ (Yld.move rfl) rfl rfl rfl ?_
                        refine AO.yld _ (Yld.len Try.underlying38 rfl rfl) rfl rfl rfl ?_
                        refine AO.yld _ (Yld.sub rfl rfl (by omega) (by omega)) rfl rfl rfl ?_
                        refine AO.yld _ (Yld.int rfl rfl rfl) rfl rfl rfl ?_
                        refine AO.yld _ (Yld.move rfl) rfl rfl rfl ?_
                        refine AO.splitAt 123 _ rfl (fun s123 => ?_) (fun s123 => ?_)
                        · -- s123 True
                          refine AO.yldG _ (Yld.move rfl) rfl rfl rfl rfl rfl ?_
                          refine AO.yldG _ (Yld.mul rfl rfl (by omega) (by omega)) rfl rfl rfl rfl rfl ?_
                          refine AO.yldG _ (Yld.move rfl) rfl rfl rfl rfl rfl ?_
                          refine AO.yldG _ (Yld.len Try.underlying38 rfl rfl) rfl rfl rfl rfl rfl ?_
                          refine AO.yldG _ (Yld.int rfl rfl rfl) rfl rfl rfl rfl rfl ?_
                          refine AO.yld _ (Yld.pickT rfl rfl) rfl rfl rfl ?_
                          refine AO.yld _ (Yld.assign rfl) rfl rfl rfl ?_
                          refine AO.nil ?_
                          refine Pure.ret Try.results5 (RVs.cons (RV.tmp rfl) RVs.nil) rfl ?_
                          first | rfl | (rw [hmb]; rfl) | (refine cb ?_; first | exact (decide_eq_true (by rw [hM]; omega)).symm | exact decide_eq_true (by rw [hM]; omega) | (exfalso; rw [hM] at s123; simp at s123; omega))
                        · -- s123 False
                          refine AO.skipT rfl rfl rfl rfl rfl ?_
                          refine AO.skipT rfl rfl rfl rfl rfl ?_
                          refine AO.skipT rfl rfl rfl rfl rfl ?_
                          refine AO.skipT rfl rfl rfl rfl rfl ?_
                          refine AO.skipT rfl rfl rfl rfl rfl ?_
                          refine AO.yld _ (Yld.pickF rfl rfl) rfl rfl rfl ?_
                          refine AO.yld _ (Yld.assign rfl) rfl rfl rfl ?_
                          refine AO.nil ?_
                          refine Pure.ret Try.results5 (RVs.cons (RV.tmp rfl) RVs.nil) rfl ?_
                          first | rfl | (rw [hmb]; rfl) | (refine cb ?_; first | exact (decide_eq_true (by rw [hM]; omega)).symm | exact decide_eq_true (by rw [hM]; omega) | (exfalso; rw [hM] at s123; simp at s123; omega))
      · -- c36 False
        refine AC.skip ?_
        refine AC.seq ?_
        refine AC.region ?_
        refine AO.yld _ (Yld.move rfl) rfl rfl rfl ?_
        refine AO.callW (wantedN rfl) [1] [] [0] rfl rfl Try.call21 rfl (spec_DrawMedianMachine_c) (.own rfl) rfl (fun _ => rfl) trivial rfl (fun _ => rfl) (fun _ => rfl) (fun ms67 hms67 => ?_)
        have hml2 := hms67.1
        have hnm2 := hms67.names
        refine AO.yld _ (Yld.assign rfl) rfl rfl rfl ?_
        refine AO.nil ?_
        refine AC.seq ?_
        refine AC.region ?_
        refine AO.yld _ (Yld.move rfl) rfl rfl rfl ?_
        refine AO.yld _ (Yld.call rfl rfl Try.call22 rfl rfl rfl (impl_MedianMachine_c (by omega) hnm2) rfl) rfl rfl rfl ?_
        refine AO.yld _ (Yld.move rfl) rfl rfl rfl ?_
        refine AO.yld _ (Yld.extract rfl rfl rfl) rfl rfl rfl ?_
        refine AO.yld _ (Yld.extract rfl rfl rfl) rfl rfl rfl ?_
        refine AO.yld _ (Yld.assign rfl) rfl rfl rfl ?_
        refine AO.yld _ (Yld.assign rfl) rfl rfl rfl ?_
        refine AO.nil ?_
        refine AC.seq ?_
        refine AC.seq ?_
        refine AC.region ?_
        refine AO.yld _ (Yld.move rfl) rfl rfl rfl ?_
        refine AO.yld _ (Yld.int rfl rfl rfl) rfl rfl rfl ?_
        refine AO.nil ?_
        refine AC.cond _ rfl (fun c74 => ?_) (fun c74 => ?_)
        · -- c74 True
          have h0m : ¬ (medianM ms67).2 = 0 := by simpa using c74
          have hmb := med_bad h0m
          refine AC.seq ?_
          refine AC.region ?_
          refine AO.yld _ (Yld.move rfl) rfl rfl rfl ?_
          refine AO.yld _ (Yld.int rfl rfl rfl) rfl rfl rfl ?_
          refine AO.yld _ (Yld.assign rfl) rfl rfl rfl ?_
          refine AO.nil ?_
          refine Pure.ret Try.results5 (RVs.cons (RV.tmp rfl) RVs.nil) rfl ?_
          first | rfl | (rw [hmb]; rfl) | (refine cb ?_; first | exact (decide_eq_true (by rw [hM]; omega)).symm | exact decide_eq_true (by rw [hM]; omega) | (exfalso; rw [hM] at s123; simp at s123; omega))
        · -- c74 False
          have h0m : (medianM ms67).2 = 0 := by simpa using c74
          obtain ⟨jm, ym, mf1, mf2, mf3, mf4, mf5⟩ := med_facts h0m
          have hM : (ms67.map encMach).length = ms67.length := List.length_map ..
          have hjm := lt_of_get mf2
          have hrowM := map_row (enc := encMach) mf2
          refine AC.skip ?_
          refine AC.seq ?_
          refine AC.seq ?_
          refine AC.region ?_
          refine AO.yld _ (Yld.move rfl) rfl rfl rfl ?_
          refine AO.yld _ (Yld.int rfl rfl rfl) rfl rfl rfl ?_
          refine AO.yld _ (Yld.move rfl) rfl rfl rfl ?_
          refine AO.splitAt 79 _ rfl (fun s79 => ?_) (fun s79 => ?_)
          · -- s79 True
            exfalso; rw [mf1] at s79; simp at s79; omega
          · -- s79 False
            refine AO.yldG _ (Yld.move rfl) rfl rfl rfl rfl rfl ?_
            refine AO.yldG _ (Yld.move rfl) rfl rfl rfl rfl rfl ?_
            refine AO.yldG _ (Yld.len Try.underlying38 rfl rfl) rfl rfl rfl rfl rfl ?_
            refine AO.yldG _ (Yld.int rfl rfl rfl) rfl rfl rfl rfl rfl ?_
            refine AO.yld _ (Yld.pickF rfl rfl) rfl rfl rfl ?_
            refine AO.nil ?_
            refine AC.cond _ rfl (fun c84 => ?_) (fun c84 => ?_)
            · -- c84 True
              exfalso; rw [mf1, hM] at c84; simp at c84; omega
            · -- c84 False
              refine AC.skip ?_
              refine AC.seq ?_
              refine AC.region ?_
              refine AO.yld _ (Yld.assign rfl) rfl rfl rfl ?_
              refine AO.nil ?_
              refine AC.seq ?_
              refine AC.region ?_
              refine AO.yld _ (Yld.assign rfl) rfl rfl rfl ?_
              refine AO.nil ?_
              refine AC.seq ?_
              refine AC.seq ?_
              refine AC.region ?_
              refine AO.yld _ (Yld.assign rfl) rfl rfl rfl ?_
              refine AO.nil ?_
              refine AC.block ?_
              refine AC.loopC [(4, _), (13, _), (14, _)] [(0, _), (1, _)] (fun (k : Nat) => [(18, .p (.v (.int .i64 (k : Int)))), (16, .p (.v (.int .i64 (cntB (lowO ym.offset) ms67 k)))), (17, .p (.v (.int .i64 (cntB (highO ym.offset) ms67 k))))]) (fun (k : Nat) => []) (fun (k : Nat) => k ≤ ms67.length) (fun (k : Nat) => ms67.length - k) 0 ⟨rfl, rfl, rfl, trivial⟩ ⟨rfl, rfl, trivial⟩ ⟨rfl, rfl, rfl, trivial⟩ trivial ?_ (fun k hJ => ?_)
              · exact Nat.zero_le _
              · -- round
                refine AC.seq ?_
                refine AC.seq ?_
                refine AC.region ?_
                refine AO.yld _ (Yld.move rfl) rfl rfl rfl ?_
                refine AO.yld _ (Yld.move rfl) rfl rfl rfl ?_
                refine AO.yld _ (Yld.len Try.underlying38 rfl rfl) rfl rfl rfl ?_
                refine AO.yld _ (Yld.int rfl rfl rfl) rfl rfl rfl ?_
                refine AO.nil ?_
                refine AC.cond _ rfl (fun c88 => ?_) (fun c88 => ?_)
                · -- c88 True
                  have hk : k < ms67.length := by have h := c88; rw [hM] at h; simpa using h
                  obtain ⟨y, hy⟩ := get_some hk
                  have hrow := map_row (enc := encMach) hy
                  have hb1 := cntB_lim (lowO ym.offset) ms67 k
                  have hb2 := cntB_lim (highO ym.offset) ms67 k
                  refine AC.skip ?_
                  refine AC.seq ?_
                  refine AC.block ?_
                  refine AC.seq ?_
                  refine AC.seq ?_
                  refine AC.draw (by kernel_rfl) (by kernel_rfl) ?_
                  refine AO.yld _ (Yld.move rfl) rfl rfl rfl ?_
                  refine AO.yld _ (Yld.move rfl) rfl rfl rfl ?_
                  refine AO.yld _ (Yld.indexVec Try.underlying38 Try.sizeOf48 rfl rfl rfl rfl (by rw [List.length_map]; omega)) rfl rfl rfl ?_
                  refine AO.yld _ (Yld.fieldAddr Try.underlying48 rfl rfl Try.sizeOf2 rfl (behind_el rfl hrow) rfl) rfl rfl rfl ?_
                  refine AO.yld _ (Yld.load Try.isAgg2 rfl (Eq.trans (behind_el rfl hrow) rfl)) rfl rfl rfl ?_
                  refine AO.yld _ (Yld.move rfl) rfl rfl rfl ?_
                  refine AO.yld _ (Yld.move rfl) rfl rfl rfl ?_
                  refine AO.yld _ (Yld.indexVec Try.underlying38 Try.sizeOf48 rfl rfl rfl mf1 (by rw [List.length_map]; omega)) rfl rfl rfl ?_
                  refine AO.yld _ (Yld.fieldAddr Try.underlying48 rfl rfl Try.sizeOf2 rfl (behind_el rfl hrowM) rfl) rfl rfl rfl ?_
                  refine AO.yld _ (Yld.load Try.isAgg2 rfl (Eq.trans (behind_el rfl hrowM) rfl)) rfl rfl rfl ?_
                  refine AO.yld _ (Yld.int rfl rfl rfl) rfl rfl rfl ?_
                  refine AO.nil ?_
                  refine AC.cond _ rfl (fun c101 => ?_) (fun c101 => ?_)
                  · -- c101 True
                    refine AC.region ?_
                    refine AO.yld _ (Yld.move rfl) rfl rfl rfl ?_
                    refine AO.yld _ (Yld.add rfl rfl (by omega) (by omega)) rfl rfl rfl ?_
                    refine AO.yld _ (Yld.assign rfl) rfl rfl rfl ?_
                    refine AO.nil ?_
                    refine AC.seq ?_
                    refine AC.draw (by kernel_rfl) (by kernel_rfl) ?_
                    refine AO.yld _ (Yld.move rfl) rfl rfl rfl ?_
                    refine AO.yld _ (Yld.move rfl) rfl rfl rfl ?_
                    refine AO.yld _ (Yld.indexVec Try.underlying38 Try.sizeOf48 rfl rfl rfl rfl (by rw [List.length_map]; omega)) rfl rfl rfl ?_
                    refine AO.yld _ (Yld.fieldAddr Try.underlying48 rfl rfl Try.sizeOf2 rfl (behind_el rfl hrow) rfl) rfl rfl rfl ?_
                    refine AO.yld _ (Yld.load Try.isAgg2 rfl (Eq.trans (behind_el rfl hrow) rfl)) rfl rfl rfl ?_
                    refine AO.yld _ (Yld.move rfl) rfl rfl rfl ?_
                    refine AO.yld _ (Yld.move rfl) rfl rfl rfl ?_
                    refine AO.yld _ (Yld.indexVec Try.underlying38 Try.sizeOf48 rfl rfl rfl mf1 (by rw [List.length_map]; omega)) rfl rfl rfl ?_
                    refine AO.yld _ (Yld.fieldAddr Try.underlying48 rfl rfl Try.sizeOf2 rfl (behind_el rfl hrowM) rfl) rfl rfl rfl ?_
                    refine AO.yld _ (Yld.load Try.isAgg2 rfl (Eq.trans (behind_el rfl hrowM) rfl)) rfl rfl rfl ?_
                    refine AO.yld _ (Yld.int rfl rfl rfl) rfl rfl rfl ?_
                    refine AO.nil ?_
                    refine AC.cond _ rfl (fun c114 => ?_) (fun c114 => ?_)
                    · -- c114 True
                      refine AC.region ?_
                      refine AO.yld _ (Yld.move rfl) rfl rfl rfl ?_
                      refine AO.yld _ (Yld.add rfl rfl (by omega) (by omega)) rfl rfl rfl ?_
                      refine AO.yld _ (Yld.assign rfl) rfl rfl rfl ?_
                      refine AO.nil ?_
                      refine AC.mark ?_
                      refine AC.region ?_
                      refine AO.yld _ (Yld.move rfl) rfl rfl rfl ?_
                      refine AO.yld _ (Yld.add rfl rfl (by omega) (by omega)) rfl rfl rfl ?_
                      refine AO.yld _ (Yld.assign rfl) rfl rfl rfl ?_
                      refine AO.nil ?_
                      refine AC.back ⟨k + 1, ?_, ?_, ⟨?_, ?_, ?_, trivial⟩, trivial, ⟨rfl, rfl, rfl, trivial⟩, ⟨rfl, rfl, trivial⟩⟩
                      · exact hk
                      · omega
                      · rfl
                      · show some (AV.p (PV.v (Value.int IntKind.i64 _))) = _; first | rw [cntB_T hy (by unfold lowO; simpa using c101)] | rw [cntB_F hy (by unfold lowO; simpa using c101)]
                      · show some (AV.p (PV.v (Value.int IntKind.i64 _))) = _; first | rw [cntB_T hy (by unfold highO; simpa using c114)] | rw [cntB_F hy (by unfold highO; simpa using c114)]
                    · -- c114 False
                      refine AC.skip ?_
                      refine AC.mark ?_
                      refine AC.region ?_
                      refine AO.yld _ (Yld.move rfl) rfl rfl rfl ?_
                      refine AO.yld _ (Yld.add rfl rfl (by omega) (by omega)) rfl rfl rfl ?_
                      refine AO.yld _ (Yld.assign rfl) rfl rfl rfl ?_
                      refine AO.nil ?_
                      refine AC.back ⟨k + 1, ?_, ?_, ⟨?_, ?_, ?_, trivial⟩, trivial, ⟨rfl, rfl, rfl, trivial⟩, ⟨rfl, rfl, trivial⟩⟩
                      · exact hk
                      · omega
                      · rfl
                      · show some (AV.p (PV.v (Value.int IntKind.i64 _))) = _; first | rw [cntB_T hy (by unfold lowO; simpa using c101)] | rw [cntB_F hy (by unfold lowO; simpa using c101)]
                      · show some (AV.p (PV.v (Value.int IntKind.i64 _))) = _; first | rw [cntB_T hy (by unfold highO; simpa using c114)] | rw [cntB_F hy (by unfold highO; simpa using c114)]
                  · -- c101 False
                    refine AC.skip ?_
                    refine AC.seq ?_
                    refine AC.draw (by kernel_rfl) (by kernel_rfl) ?_
                    refine AO.yld _ (Yld.move rfl) rfl rfl rfl ?_
                    refine AO.yld _ (Yld.move rfl) rfl rfl rfl ?_
                    refine AO.yld _ (Yld.indexVec Try.underlying38 Try.sizeOf48 rfl rfl rfl rfl (by rw [List.length_map]; omega)) rfl rfl rfl ?_
                    refine AO.yld _ (Yld.fieldAddr Try.underlying48 rfl rfl Try.sizeOf2 rfl (behind_el rfl hrow) rfl) rfl rfl rfl ?_
                    refine AO.yld _ (Yld.load Try.isAgg2 rfl (Eq.trans (behind_el rfl hrow) rfl)) rfl rfl rfl ?_
                    refine AO.yld _ (Yld.move rfl) rfl rfl rfl ?_
                    refine AO.yld _ (Yld.move rfl) rfl rfl rfl ?_
                    refine AO.yld _ (Yld.indexVec Try.underlying38 Try.sizeOf48 rfl rfl rfl mf1 (by rw [List.length_map]; omega)) rfl rfl rfl ?_
                    refine AO.yld _ (Yld.fieldAddr Try.underlying48 rfl rfl Try.sizeOf2 rfl (behind_el rfl hrowM) rfl) rfl rfl rfl ?_
                    refine AO.yld _ (Yld.load Try.isAgg2 rfl (Eq.trans (behind_el rfl hrowM) rfl)) rfl rfl rfl ?_
                    refine AO.yld _ (Yld.int rfl rfl rfl) rfl rfl rfl ?_
                    refine AO.nil ?_
                    refine AC.cond _ rfl (fun c114 => ?_) (fun c114 => ?_)
                    · -- c114 True
                      refine AC.region ?_
                      refine AO.yld _ (Yld.move rfl) rfl rfl rfl ?_
                      refine AO.yld _ (Yld.add rfl rfl (by omega) (by omega)) rfl rfl rfl ?_
                      refine AO.yld _ (Yld.assign rfl) rfl rfl rfl ?_
                      refine AO.nil ?_
                      refine AC.mark ?_
                      refine AC.region ?_
                      refine AO.yld _ (Yld.move rfl) rfl rfl rfl ?_
                      refine AO.yld _ (Yld.add rfl rfl (by omega) (by omega)) rfl rfl rfl ?_
                      refine AO.yld _ (Yld.assign rfl) rfl rfl rfl ?_
                      refine AO.nil ?_
                      refine AC.back ⟨k + 1, ?_, ?_, ⟨?_, ?_, ?_, trivial⟩, trivial, ⟨rfl, rfl, rfl, trivial⟩, ⟨rfl, rfl, trivial⟩⟩
                      · exact hk
                      · omega
                      · rfl
                      · show some (AV.p (PV.v (Value.int IntKind.i64 _))) = _; first | rw [cntB_T hy (by unfold lowO; simpa using c101)] | rw [cntB_F hy (by unfold lowO; simpa using c101)]
                      · show some (AV.p (PV.v (Value.int IntKind.i64 _))) = _; first | rw [cntB_T hy (by unfold highO; simpa using c114)] | rw [cntB_F hy (by unfold highO; simpa using c114)]
                    · -- c114 False
                      refine AC.skip ?_
                      refine AC.mark ?_
                      refine AC.region ?_
                      refine AO.yld _ (Yld.move rfl) rfl rfl rfl ?_
                      refine AO.yld _ (Yld.add rfl rfl (by omega) (by omega)) rfl rfl rfl ?_
                      refine AO.yld _ (Yld.assign rfl) rfl rfl rfl ?_
                      refine AO.nil ?_
                      refine AC.back ⟨k + 1, ?_, ?_, ⟨?_, ?_, ?_, trivial⟩, trivial, ⟨rfl, rfl, rfl, trivial⟩, ⟨rfl, rfl, trivial⟩⟩
                      · exact hk
                      · omega
                      · rfl
                      · show some (AV.p (PV.v (Value.int IntKind.i64 _))) = _; first | rw [cntB_T hy (by unfold lowO; simpa using c101)] | rw [cntB_F hy (by unfold lowO; simpa using c101)]
                      · show some (AV.p (PV.v (Value.int IntKind.i64 _))) = _; first | rw [cntB_T hy (by unfold highO; simpa using c114)] | rw [cntB_F hy (by unfold highO; simpa using c114)]
                · -- c88 False
                  obtain rfl : k = ms67.length := by have h := c88; rw [hM] at h; simp at h; omega
                  have hb1 := cntB_lim (lowO ym.offset) ms67 ms67.length
                  have hb2 := cntB_lim (highO ym.offset) ms67 ms67.length
                  refine AC.exit rfl ?_
                  refine AC.seq ?_
                  refine AC.region ?_
                  refine AO.yld _ (Yld.move rfl) rfl rfl rfl ?_
                  refine AO.yld _ (Yld.mul rfl rfl (by omega) (by omega)) rfl rfl rfl ?_
                  refine AO.yld _ (Yld.move rfl) rfl rfl rfl ?_
                  refine AO.yld _ (Yld.len Try.underlying38 rfl rfl) rfl rfl rfl ?_
                  refine AO.yld _ (Yld.sub rfl rfl (by omega) (by omega)) rfl rfl rfl ?_
                  refine AO.yld _ (Yld.int rfl rfl rfl) rfl rfl rfl ?_
                  refine AO.yld _ (Yld.move rfl) rfl rfl rfl ?_
                  refine AO.splitAt 123 _ rfl (fun s123 => ?_) (fun s123 => ?_)
                  · -- s123 True
                    refine AO.yldG _ (Yld.move rfl) rfl rfl rfl rfl rfl ?_
                    refine AO.yldG _ (Yld.mul rfl rfl (by omega) (by omega)) rfl rfl rfl rfl rfl ?_
                    refine AO.yldG _ (Yld.move rfl) rfl rfl rfl rfl rfl ?_
                    refine AO.yldG _ (Yld.len Try.underlying38 rfl rfl) rfl rfl rfl rfl rfl ?_
                    refine AO.yldG _ (Yld.int rfl rfl rfl) rfl rfl rfl rfl rfl ?_
                    refine AO.yld _ (Yld.pickT rfl rfl) rfl rfl rfl ?_
                    refine AO.yld _ (Yld.assign rfl) rfl rfl rfl ?_
                    refine AO.nil ?_
                    refine Pure.ret Try.results5 (RVs.cons (RV.tmp rfl) RVs.nil) rfl ?_
                    first | rfl | (rw [hmb]; rfl) | (refine cb ?_; first | exact (decide_eq_true (by rw [hM]; omega)).symm | exact decide_eq_true (by rw [hM]; omega) | (exfalso; rw [hM] at s123; simp at s123; omega))
                  · -- s123 False
                    refine AO.skipT rfl rfl rfl rfl rfl ?_
                    refine AO.skipT rfl rfl rfl rfl rfl ?_
                    refine AO.skipT rfl rfl rfl rfl rfl ?_
                    refine AO.skipT rfl rfl rfl rfl rfl ?_
                    refine AO.skipT rfl rfl rfl rfl rfl ?_
                    refine AO.yld _ (Yld.pickF rfl rfl) rfl rfl rfl ?_
                    refine AO.yld _ (Yld.assign rfl) rfl rfl rfl ?_
                    refine AO.nil ?_
                    refine Pure.ret Try.results5 (RVs.cons (RV.tmp rfl) RVs.nil) rfl ?_
                    first | rfl | (rw [hmb]; rfl) | (refine cb ?_; first | exact (decide_eq_true (by rw [hM]; omega)).symm | exact decide_eq_true (by rw [hM]; omega) | (exfalso; rw [hM] at s123; simp at s123; omega))

end Go.Proofs.Ytdpanmnnfamfmaa
