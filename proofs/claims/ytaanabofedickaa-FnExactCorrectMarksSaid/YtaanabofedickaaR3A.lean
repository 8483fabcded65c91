/- Contracts of functions of the program, each by a walk of its text in the calculus V. -/
import Derived.Test.YtaanabofedickaaM1
import Derived.Test.YtaanabofedickaaD11
set_option linter.all false
set_option linter.unusedSimpArgs false
set_option linter.unnecessarySimpa false
set_option linter.unusedVariables false
namespace Go.Proofs.Ytaanabofedickaa
open Go Go.V
theorem ty2 : TyIs Try.prog 2 (.int .i64 0) 1 8 := by unfold TyIs; kernel_rfl

theorem spec_LateMachines_c {xs : List Mach} (hn : xs.length ≤ 1048576) (hs : ∀ x ∈ xs, x.name.length ≤ 1048576) {l : Int} :
    FnE (α := Unit) Try.prog 19 [.p (.sl 3 (xs.map encMach)), .p (.v (.int .i64 l))] [] [] (fun _ => True) (fun _ => .tup [.h 0, .p (.v (.int .i64 (lateMachines xs l).2))]) (fun _ => [(0, .vec 2 1 ((lateMachines xs l).1.map encI))]) := by
  refine FnE.intro Try.func19 rfl Try.ntmps19 rfl rfl (fun w0 F0 η φ w => ?_)
  refine AC.seq ?_
  refine AC.region ?_
  refine AO.yld _ (Yld.assign rfl) rfl rfl rfl ?_
  refine AO.yld _ (Yld.assign rfl) rfl rfl rfl ?_
  refine AO.nil ?_
  refine AC.seq ?_
  refine AC.region ?_
  refine AO.yld _ (Yld.move rfl) rfl rfl rfl ?_
  refine AO.yld _ (Yld.call rfl rfl Try.call75 rfl rfl rfl (spec_l26Ask_c (by first | assumption | omega) (by assumption)) rfl) rfl rfl rfl ?_
  refine AO.yld _ (Yld.assign rfl) rfl rfl rfl ?_
  refine AO.nil ?_
  refine AC.seq ?_
  refine AC.seq ?_
  refine AC.region ?_
  refine AO.yld _ (Yld.move rfl) rfl rfl rfl ?_
  refine AO.yld _ (Yld.int rfl rfl rfl) rfl rfl rfl ?_
  refine AO.yld _ (Yld.move rfl) rfl rfl rfl ?_
  refine AO.splitAt 13 _ rfl (fun s13 => ?_) (fun s13 => ?_)
  · -- s13 True
    refine AO.yldG _ (Yld.move rfl) rfl rfl rfl rfl rfl ?_
    refine AO.yldG _ (Yld.int rfl rfl rfl) rfl rfl rfl rfl rfl ?_
    refine AO.yld _ (Yld.pickT rfl rfl) rfl rfl rfl ?_
    refine AO.nil ?_
    refine AC.cond _ rfl (fun c16 => ?_) (fun c16 => ?_)
    · -- c16 True
      refine AC.region ?_
      refine AO.yld _ (Yld.assign rfl) rfl rfl rfl ?_
      refine AO.nil ?_
      refine AC.seq ?_
      refine AC.seq ?_
      refine AC.region ?_
      refine AO.yld _ (Yld.move rfl) rfl rfl rfl ?_
      refine AO.yld _ (Yld.int rfl rfl rfl) rfl rfl rfl ?_
      refine AO.nil ?_
      refine AC.cond _ rfl (fun c18 => ?_) (fun c18 => ?_)
      · -- c18 True
        refine AC.seq ?_
        refine AC.region ?_
        refine AO.yld _ (Yld.move rfl) rfl rfl rfl ?_
        refine AO.yld _ (Yld.assign rfl) rfl rfl rfl ?_
        refine AO.yld _ (Yld.assign rfl) rfl rfl rfl ?_
        refine AO.nil ?_
        refine AC.nilVec 4 0 2 1 rfl rfl ?_
        refine FnE.ret () [0] [0] Try.results19 (RVs.cons (RV.tmp rfl) (RVs.cons (RV.tmp rfl) RVs.nil)) rfl rfl rfl ?_ ?_ ⟨⟨_, rfl, ?_⟩, trivial⟩
        · -- holds
          trivial
        · -- value
          refine tupE ?_; first | (simp_all [lateMachines]; done) | grind [lateMachines]
        · -- thing 0
          refine vecE ?_; first | (simp_all [lateMachines, idxOn]; done) | grind [lateMachines, idxOn]
      · -- c18 False
        have hk0 : askMachines xs = 0 := by first | (simpa using c18) | (exact absurd c18 (by decide))
        have hok := (ask_ok hk0).1
        refine AC.skip ?_
        refine AC.seq ?_
        refine AC.region ?_
        refine AO.buildSlice (rows := []) 0 Try.underlying31 ty2 rfl rfl rfl rfl rfl rfl rfl rfl rfl ?_
        refine AO.yld _ (Yld.assign rfl) rfl rfl rfl ?_
        refine AO.nil ?_
        refine AC.seq ?_
        refine AC.seq ?_
        refine AC.region ?_
        refine AO.yld _ (Yld.assign rfl) rfl rfl rfl ?_
        refine AO.nil ?_
        refine AC.block ?_
        refine AC.loopC [(0, _), (1, _), (4, _), (5, _)] [(900, _)] (fun (k : Nat) => [(8, .p (.v (.int .i64 (k : Int)))), (7, .h 0)]) (fun (k : Nat) => [(0, .vec 2 1 ((idxTo (lateB l) xs k).map encI))]) (fun (k : Nat) => k ≤ xs.length) (fun (k : Nat) => xs.length - k) 0 ⟨rfl, rfl, rfl, rfl, trivial⟩ ⟨rfl, trivial⟩ ⟨rfl, rfl, trivial⟩ ⟨rfl, trivial⟩ ?_ (fun k hJ => ?_)
        · exact Nat.zero_le _
        · -- round
          refine AC.seq ?_
          refine AC.seq ?_
          refine AC.region ?_
          refine AO.yld _ (Yld.move rfl) rfl rfl rfl ?_
          refine AO.yld _ (Yld.move rfl) rfl rfl rfl ?_
          refine AO.yld _ (Yld.len Try.underlying34 rfl rfl) rfl rfl rfl ?_
          refine AO.yld _ (Yld.int rfl rfl rfl) rfl rfl rfl ?_
          refine AO.nil ?_
          refine AC.cond _ rfl (fun c24 => ?_) (fun c24 => ?_)
          · -- c24 True
            have hk := lt_of_decM c24
            obtain ⟨x, hx⟩ := get_some hk
            have hrow := map_row (enc := encMach) hx
            have hox := machines_at hok hx
            have hlx := mach_lim hox
            have hhu := half_up (a := x.delay) (by omega)
            have hil := idxTo_len (p := (lateB l)) (xs := xs) k
            refine AC.skip ?_
            refine AC.seq ?_
            refine AC.block ?_
            refine AC.seq ?_
            refine AC.region ?_
            refine AO.yld _ (Yld.move rfl) rfl rfl rfl ?_
            refine AO.yld _ (Yld.move rfl) rfl rfl rfl ?_
            refine AO.yld _ (Yld.move rfl) rfl rfl rfl ?_
            refine AO.yld _ (Yld.indexSl Try.underlying34 Try.sizeOf110 rfl rfl hrow rfl) rfl rfl rfl ?_
            refine AO.yld _ (Yld.fieldAddr Try.underlying110 rfl rfl Try.sizeOf2 rfl rfl rfl) rfl rfl rfl ?_
            refine AO.yld _ (Yld.load Try.isAgg2 rfl rfl) rfl rfl rfl ?_
            refine AO.yld _ (Yld.add rfl rfl (by omega) (by omega)) rfl rfl rfl ?_
            refine AO.yld _ (Yld.quoP rfl rfl (by omega) (by omega) (by omega)) rfl rfl rfl ?_
            refine AO.yld _ (Yld.int rfl rfl rfl) rfl rfl rfl ?_
            refine AO.nil ?_
            refine AC.cond _ rfl (fun c35 => ?_) (fun c35 => ?_)
            · -- c35 True
              refine AC.region ?_
              refine AO.yld _ (Yld.move rfl) rfl rfl rfl ?_
              refine AO.yld _ (Yld.move rfl) rfl rfl rfl ?_
              refine AO.buildSlice (rows := [[_]]) 1 Try.underlying31 ty2 rfl rfl rfl rfl rfl rfl rfl rfl rfl ?_
              refine AO.append 0 Try.underlying31 ty2 rfl rfl rfl rfl rfl rfl rfl (by simp [pvOne]) (by simp only [List.length_map, List.length_cons, List.length_nil]; omega) (by simp only [List.length_map, List.length_cons, List.length_nil]; omega) rfl ?_
              refine AO.yld _ (Yld.assign rfl) rfl rfl rfl ?_
              refine AO.nil ?_
              refine AC.mark ?_
              refine AC.region ?_
              refine AO.yld _ (Yld.move rfl) rfl rfl rfl ?_
              refine AO.yld _ (Yld.add rfl rfl (by omega) (by omega)) rfl rfl rfl ?_
              refine AO.yld _ (Yld.assign rfl) rfl rfl rfl ?_
              refine AO.nil ?_
              refine AC.back ⟨k + 1, ?_, ?_, ⟨?_, ?_, trivial⟩, ⟨?_, trivial⟩, ⟨rfl, rfl, rfl, rfl, trivial⟩, ⟨rfl, trivial⟩⟩
              · exact hk
              · omega
              · rfl
              · rfl
              · first | (rw [idxTo_T hx (by unfold lateB; have h := c35; simp at h ⊢; omega)]; rw [map_snoc]; rfl) | (rw [idxTo_F hx (by unfold lateB; have h := c35; simp at h ⊢; omega)]; rfl)
            · -- c35 False
              refine AC.skip ?_
              refine AC.mark ?_
              refine AC.region ?_
              refine AO.yld _ (Yld.move rfl) rfl rfl rfl ?_
              refine AO.yld _ (Yld.add rfl rfl (by omega) (by omega)) rfl rfl rfl ?_
              refine AO.yld _ (Yld.assign rfl) rfl rfl rfl ?_
              refine AO.nil ?_
              refine AC.back ⟨k + 1, ?_, ?_, ⟨?_, ?_, trivial⟩, ⟨?_, trivial⟩, ⟨rfl, rfl, rfl, rfl, trivial⟩, ⟨rfl, trivial⟩⟩
              · exact hk
              · omega
              · rfl
              · rfl
              · first | (rw [idxTo_T hx (by unfold lateB; have h := c35; simp at h ⊢; omega)]; rw [map_snoc]; rfl) | (rw [idxTo_F hx (by unfold lateB; have h := c35; simp at h ⊢; omega)]; rfl)
          · -- c24 False
            obtain rfl : k = xs.length := by have := ge_of_decM c24; omega
            refine AC.exit rfl ?_
            refine AC.seq ?_
            refine AC.region ?_
            refine AO.yld _ (Yld.move rfl) rfl rfl rfl ?_
            refine AO.yld _ (Yld.assign rfl) rfl rfl rfl ?_
            refine AO.yld _ (Yld.assign rfl) rfl rfl rfl ?_
            refine AO.nil ?_
            refine FnE.ret () [0] [0] Try.results19 (RVs.cons (RV.tmp rfl) (RVs.cons (RV.tmp rfl) RVs.nil)) rfl rfl rfl ?_ ?_ ⟨⟨_, rfl, ?_⟩, trivial⟩
            · -- holds
              trivial
            · -- value
              refine tupE ?_; first | (simp_all [lateMachines]; done) | grind [lateMachines]
            · -- thing 0
              refine vecE ?_; first | (simp_all [lateMachines, idxOn]; done) | grind [lateMachines, idxOn]
    · -- c16 False
      refine AC.skip ?_
      refine AC.seq ?_
      refine AC.seq ?_
      refine AC.region ?_
      refine AO.yld _ (Yld.move rfl) rfl rfl rfl ?_
      refine AO.yld _ (Yld.int rfl rfl rfl) rfl rfl rfl ?_
      refine AO.nil ?_
      refine AC.cond _ rfl (fun c18 => ?_) (fun c18 => ?_)
      · -- c18 True
        refine AC.seq ?_
        refine AC.region ?_
        refine AO.yld _ (Yld.move rfl) rfl rfl rfl ?_
        refine AO.yld _ (Yld.assign rfl) rfl rfl rfl ?_
        refine AO.yld _ (Yld.assign rfl) rfl rfl rfl ?_
        refine AO.nil ?_
        refine AC.nilVec 4 0 2 1 rfl rfl ?_
        refine FnE.ret () [0] [0] Try.results19 (RVs.cons (RV.tmp rfl) (RVs.cons (RV.tmp rfl) RVs.nil)) rfl rfl rfl ?_ ?_ ⟨⟨_, rfl, ?_⟩, trivial⟩
        · -- holds
          trivial
        · -- value
          refine tupE ?_; first | (simp_all [lateMachines]; done) | grind [lateMachines]
        · -- thing 0
          refine vecE ?_; first | (simp_all [lateMachines, idxOn]; done) | grind [lateMachines, idxOn]
      · -- c18 False
        have hk0 : askMachines xs = 0 := by first | (simpa using c18) | (exact absurd c18 (by decide))
        have hok := (ask_ok hk0).1
        refine AC.skip ?_
        refine AC.seq ?_
        refine AC.region ?_
        refine AO.buildSlice (rows := []) 0 Try.underlying31 ty2 rfl rfl rfl rfl rfl rfl rfl rfl rfl ?_
        refine AO.yld _ (Yld.assign rfl) rfl rfl rfl ?_
        refine AO.nil ?_
        refine AC.seq ?_
        refine AC.seq ?_
        refine AC.region ?_
        refine AO.yld _ (Yld.assign rfl) rfl rfl rfl ?_
        refine AO.nil ?_
        refine AC.block ?_
        refine AC.loopC [(0, _), (1, _), (4, _), (5, _)] [(900, _)] (fun (k : Nat) => [(8, .p (.v (.int .i64 (k : Int)))), (7, .h 0)]) (fun (k : Nat) => [(0, .vec 2 1 ((idxTo (lateB l) xs k).map encI))]) (fun (k : Nat) => k ≤ xs.length) (fun (k : Nat) => xs.length - k) 0 ⟨rfl, rfl, rfl, rfl, trivial⟩ ⟨rfl, trivial⟩ ⟨rfl, rfl, trivial⟩ ⟨rfl, trivial⟩ ?_ (fun k hJ => ?_)
        · exact Nat.zero_le _
        · -- round
          refine AC.seq ?_
          refine AC.seq ?_
          refine AC.region ?_
          refine AO.yld _ (Yld.move rfl) rfl rfl rfl ?_
          refine AO.yld _ (Yld.move rfl) rfl rfl rfl ?_
          refine AO.yld _ (Yld.len Try.underlying34 rfl rfl) rfl rfl rfl ?_
          refine AO.yld _ (Yld.int rfl rfl rfl) rfl rfl rfl ?_
          refine AO.nil ?_
          refine AC.cond _ rfl (fun c24 => ?_) (fun c24 => ?_)
          · -- c24 True
            have hk := lt_of_decM c24
            obtain ⟨x, hx⟩ := get_some hk
            have hrow := map_row (enc := encMach) hx
            have hox := machines_at hok hx
            have hlx := mach_lim hox
            have hhu := half_up (a := x.delay) (by omega)
            have hil := idxTo_len (p := (lateB l)) (xs := xs) k
            refine AC.skip ?_
            refine AC.seq ?_
            refine AC.block ?_
            refine AC.seq ?_
            refine AC.region ?_
            refine AO.yld _ (Yld.move rfl) rfl rfl rfl ?_
            refine AO.yld _ (Yld.move rfl) rfl rfl rfl ?_
            refine AO.yld _ (Yld.move rfl) rfl rfl rfl ?_
            refine AO.yld _ (Yld.indexSl Try.underlying34 Try.sizeOf110 rfl rfl hrow rfl) rfl rfl rfl ?_
            refine AO.yld _ (Yld.fieldAddr Try.underlying110 rfl rfl Try.sizeOf2 rfl rfl rfl) rfl rfl rfl ?_
            refine AO.yld _ (Yld.load Try.isAgg2 rfl rfl) rfl rfl rfl ?_
            refine AO.yld _ (Yld.add rfl rfl (by omega) (by omega)) rfl rfl rfl ?_
            refine AO.yld _ (Yld.quoP rfl rfl (by omega) (by omega) (by omega)) rfl rfl rfl ?_
            refine AO.yld _ (Yld.int rfl rfl rfl) rfl rfl rfl ?_
            refine AO.nil ?_
            refine AC.cond _ rfl (fun c35 => ?_) (fun c35 => ?_)
            · -- c35 True
              refine AC.region ?_
              refine AO.yld _ (Yld.move rfl) rfl rfl rfl ?_
              refine AO.yld _ (Yld.move rfl) rfl rfl rfl ?_
              refine AO.buildSlice (rows := [[_]]) 1 Try.underlying31 ty2 rfl rfl rfl rfl rfl rfl rfl rfl rfl ?_
              refine AO.append 0 Try.underlying31 ty2 rfl rfl rfl rfl rfl rfl rfl (by simp [pvOne]) (by simp only [List.length_map, List.length_cons, List.length_nil]; omega) (by simp only [List.length_map, List.length_cons, List.length_nil]; omega) rfl ?_
              refine AO.yld _ (Yld.assign rfl) rfl rfl rfl ?_
              refine AO.nil ?_
              refine AC.mark ?_
              refine AC.region ?_
              refine AO.yld _ (Yld.move rfl) rfl rfl rfl ?_
              refine AO.yld _ (Yld.add rfl rfl (by omega) (by omega)) rfl rfl rfl ?_
              refine AO.yld _ (Yld.assign rfl) rfl rfl rfl ?_
              refine AO.nil ?_
              refine AC.back ⟨k + 1, ?_, ?_, ⟨?_, ?_, trivial⟩, ⟨?_, trivial⟩, ⟨rfl, rfl, rfl, rfl, trivial⟩, ⟨rfl, trivial⟩⟩
              · exact hk
              · omega
              · rfl
              · rfl
              · first | (rw [idxTo_T hx (by unfold lateB; have h := c35; simp at h ⊢; omega)]; rw [map_snoc]; rfl) | (rw [idxTo_F hx (by unfold lateB; have h := c35; simp at h ⊢; omega)]; rfl)
            · -- c35 False
              refine AC.skip ?_
              refine AC.mark ?_
              refine AC.region ?_
              refine AO.yld _ (Yld.move rfl) rfl rfl rfl ?_
              refine AO.yld _ (Yld.add rfl rfl (by omega) (by omega)) rfl rfl rfl ?_
              refine AO.yld _ (Yld.assign rfl) rfl rfl rfl ?_
              refine AO.nil ?_
              refine AC.back ⟨k + 1, ?_, ?_, ⟨?_, ?_, trivial⟩, ⟨?_, trivial⟩, ⟨rfl, rfl, rfl, rfl, trivial⟩, ⟨rfl, trivial⟩⟩
              · exact hk
              · omega
              · rfl
              · rfl
              · first | (rw [idxTo_T hx (by unfold lateB; have h := c35; simp at h ⊢; omega)]; rw [map_snoc]; rfl) | (rw [idxTo_F hx (by unfold lateB; have h := c35; simp at h ⊢; omega)]; rfl)
          · -- c24 False
            obtain rfl : k = xs.length := by have := ge_of_decM c24; omega
            refine AC.exit rfl ?_
            refine AC.seq ?_
            refine AC.region ?_
            refine AO.yld _ (Yld.move rfl) rfl rfl rfl ?_
            refine AO.yld _ (Yld.assign rfl) rfl rfl rfl ?_
            refine AO.yld _ (Yld.assign rfl) rfl rfl rfl ?_
            refine AO.nil ?_
            refine FnE.ret () [0] [0] Try.results19 (RVs.cons (RV.tmp rfl) (RVs.cons (RV.tmp rfl) RVs.nil)) rfl rfl rfl ?_ ?_ ⟨⟨_, rfl, ?_⟩, trivial⟩
            · -- holds
              trivial
            · -- value
              refine tupE ?_; first | (simp_all [lateMachines]; done) | grind [lateMachines]
            · -- thing 0
              refine vecE ?_; first | (simp_all [lateMachines, idxOn]; done) | grind [lateMachines, idxOn]
  · -- s13 False
    refine AO.skipT rfl rfl rfl rfl rfl ?_
    refine AO.skipT rfl rfl rfl rfl rfl ?_
    refine AO.yld _ (Yld.pickF rfl rfl) rfl rfl rfl ?_
    refine AO.nil ?_
    refine AC.condF rfl ?_
    refine AC.skip ?_
    refine AC.seq ?_
    refine AC.seq ?_
    refine AC.region ?_
    refine AO.yld _ (Yld.move rfl) rfl rfl rfl ?_
    refine AO.yld _ (Yld.int rfl rfl rfl) rfl rfl rfl ?_
    refine AO.nil ?_
    refine AC.cond _ rfl (fun c18 => ?_) (fun c18 => ?_)
    · -- c18 True
      refine AC.seq ?_
      refine AC.region ?_
      refine AO.yld _ (Yld.move rfl) rfl rfl rfl ?_
      refine AO.yld _ (Yld.assign rfl) rfl rfl rfl ?_
      refine AO.yld _ (Yld.assign rfl) rfl rfl rfl ?_
      refine AO.nil ?_
      refine AC.nilVec 4 0 2 1 rfl rfl ?_
      refine FnE.ret () [0] [0] Try.results19 (RVs.cons (RV.tmp rfl) (RVs.cons (RV.tmp rfl) RVs.nil)) rfl rfl rfl ?_ ?_ ⟨⟨_, rfl, ?_⟩, trivial⟩
      · -- holds
        trivial
      · -- value
        refine tupE ?_; first | (simp_all [lateMachines]; done) | grind [lateMachines]
      · -- thing 0
        refine vecE ?_; first | (simp_all [lateMachines, idxOn]; done) | grind [lateMachines, idxOn]
    · -- c18 False
      have hk0 : askMachines xs = 0 := by first | (simpa using c18) | (exact absurd c18 (by decide))
      have hok := (ask_ok hk0).1
      refine AC.skip ?_
      refine AC.seq ?_
      refine AC.region ?_
      refine AO.buildSlice (rows := []) 0 Try.underlying31 ty2 rfl rfl rfl rfl rfl rfl rfl rfl rfl ?_
      refine AO.yld _ (Yld.assign rfl) rfl rfl rfl ?_
      refine AO.nil ?_
      refine AC.seq ?_
      refine AC.seq ?_
      refine AC.region ?_
      refine AO.yld _ (Yld.assign rfl) rfl rfl rfl ?_
      refine AO.nil ?_
      refine AC.block ?_
      refine AC.loopC [(0, _), (1, _), (4, _), (5, _)] [(900, _)] (fun (k : Nat) => [(8, .p (.v (.int .i64 (k : Int)))), (7, .h 0)]) (fun (k : Nat) => [(0, .vec 2 1 ((idxTo (lateB l) xs k).map encI))]) (fun (k : Nat) => k ≤ xs.length) (fun (k : Nat) => xs.length - k) 0 ⟨rfl, rfl, rfl, rfl, trivial⟩ ⟨rfl, trivial⟩ ⟨rfl, rfl, trivial⟩ ⟨rfl, trivial⟩ ?_ (fun k hJ => ?_)
      · exact Nat.zero_le _
      · -- round
        refine AC.seq ?_
        refine AC.seq ?_
        refine AC.region ?_
        refine AO.yld _ (Yld.move rfl) rfl rfl rfl ?_
        refine AO.yld _ (Yld.move rfl) rfl rfl rfl ?_
        refine AO.yld _ (Yld.len Try.underlying34 rfl rfl) rfl rfl rfl ?_
        refine AO.yld _ (Yld.int rfl rfl rfl) rfl rfl rfl ?_
        refine AO.nil ?_
        refine AC.cond _ rfl (fun c24 => ?_) (fun c24 => ?_)
        · -- c24 True
          have hk := lt_of_decM c24
          obtain ⟨x, hx⟩ := get_some hk
          have hrow := map_row (enc := encMach) hx
          have hox := machines_at hok hx
          have hlx := mach_lim hox
          have hhu := half_up (a := x.delay) (by omega)
          have hil := idxTo_len (p := (lateB l)) (xs := xs) k
          refine AC.skip ?_
          refine AC.seq ?_
          refine AC.block ?_
          refine AC.seq ?_
          refine AC.region ?_
          refine AO.yld _ (Yld.move rfl) rfl rfl rfl ?_
          refine AO.yld _ (Yld.move rfl) rfl rfl rfl ?_
          refine AO.yld _ (Yld.move rfl) rfl rfl rfl ?_
          refine AO.yld _ (Yld.indexSl Try.underlying34 Try.sizeOf110 rfl rfl hrow rfl) rfl rfl rfl ?_
          refine AO.yld _ (Yld.fieldAddr Try.underlying110 rfl rfl Try.sizeOf2 rfl rfl rfl) rfl rfl rfl ?_
          refine AO.yld _ (Yld.load Try.isAgg2 rfl rfl) rfl rfl rfl ?_
          refine AO.yld _ (Yld.add rfl rfl (by omega) (by omega)) rfl rfl rfl ?_
          refine AO.yld _ (Yld.quoP rfl rfl (by omega) (by omega) (by omega)) rfl rfl rfl ?_
          refine AO.yld _ (Yld.int rfl rfl rfl) rfl rfl rfl ?_
          refine AO.nil ?_
          refine AC.cond _ rfl (fun c35 => ?_) (fun c35 => ?_)
          · -- c35 True
            refine AC.region ?_
            refine AO.yld _ (Yld.move rfl) rfl rfl rfl ?_
            refine AO.yld _ (Yld.move rfl) rfl rfl rfl ?_
            refine AO.buildSlice (rows := [[_]]) 1 Try.underlying31 ty2 rfl rfl rfl rfl rfl rfl rfl rfl rfl ?_
            refine AO.append 0 Try.underlying31 ty2 rfl rfl rfl rfl rfl rfl rfl (by simp [pvOne]) (by simp only [List.length_map, List.length_cons, List.length_nil]; omega) (by simp only [List.length_map, List.length_cons, List.length_nil]; omega) rfl ?_
            refine AO.yld _ (Yld.assign rfl) rfl rfl rfl ?_
            refine AO.nil ?_
            refine AC.mark ?_
            refine AC.region ?_
            refine AO.yld _ (Yld.move rfl) rfl rfl rfl ?_
            refine AO.yld _ (Yld.add rfl rfl (by omega) (by omega)) rfl rfl rfl ?_
            refine AO.yld _ (Yld.assign rfl) rfl rfl rfl ?_
            refine AO.nil ?_
            refine AC.back ⟨k + 1, ?_, ?_, ⟨?_, ?_, trivial⟩, ⟨?_, trivial⟩, ⟨rfl, rfl, rfl, rfl, trivial⟩, ⟨rfl, trivial⟩⟩
            · exact hk
            · omega
            · rfl
            · rfl
            · first | (rw [idxTo_T hx (by unfold lateB; have h := c35; simp at h ⊢; omega)]; rw [map_snoc]; rfl) | (rw [idxTo_F hx (by unfold lateB; have h := c35; simp at h ⊢; omega)]; rfl)
          · -- c35 False
            refine AC.skip ?_
            refine AC.mark ?_
            refine AC.region ?_
            refine AO.yld _ (Yld.move rfl) rfl rfl rfl ?_
            refine AO.yld _ (Yld.add rfl rfl (by omega) (by omega)) rfl rfl rfl ?_
            refine AO.yld _ (Yld.assign rfl) rfl rfl rfl ?_
            refine AO.nil ?_
            refine AC.back ⟨k + 1, ?_, ?_, ⟨?_, ?_, trivial⟩, ⟨?_, trivial⟩, ⟨rfl, rfl, rfl, rfl, trivial⟩, ⟨rfl, trivial⟩⟩
            · exact hk
            · omega
            · rfl
            · rfl
            · first | (rw [idxTo_T hx (by unfold lateB; have h := c35; simp at h ⊢; omega)]; rw [map_snoc]; rfl) | (rw [idxTo_F hx (by unfold lateB; have h := c35; simp at h ⊢; omega)]; rfl)
        · -- c24 False
          obtain rfl : k = xs.length := by have := ge_of_decM c24; omega
          refine AC.exit rfl ?_
          refine AC.seq ?_
          refine AC.region ?_
          refine AO.yld _ (Yld.move rfl) rfl rfl rfl ?_
          refine AO.yld _ (Yld.assign rfl) rfl rfl rfl ?_
          refine AO.yld _ (Yld.assign rfl) rfl rfl rfl ?_
          refine AO.nil ?_
          refine FnE.ret () [0] [0] Try.results19 (RVs.cons (RV.tmp rfl) (RVs.cons (RV.tmp rfl) RVs.nil)) rfl rfl rfl ?_ ?_ ⟨⟨_, rfl, ?_⟩, trivial⟩
          · -- holds
            trivial
          · -- value
            refine tupE ?_; first | (simp_all [lateMachines]; done) | grind [lateMachines]
          · -- thing 0
            refine vecE ?_; first | (simp_all [lateMachines, idxOn]; done) | grind [lateMachines, idxOn]

theorem impl_LateMachines_c {xs : List Mach} (hn : xs.length ≤ 1048576) (hs : ∀ x ∈ xs, x.name.length ≤ 1048576) {l : Int} :
    FnE (α := Unit) Try.prog 21 [.p (.sl 3 (xs.map encMach)), .p (.v (.int .i64 l))] [] [] (fun _ => True) (fun _ => .tup [.h 0, .p (.v (.int .i64 (lateMachines xs l).2))]) (fun _ => [(0, .vec 2 1 ((lateMachines xs l).1.map encI))]) := by
  refine FnE.intro Try.func21 rfl Try.ntmps21 rfl rfl (fun w0 F0 η φ w => ?_)
  refine AC.seq ?_
  refine AC.region ?_
  refine AO.yld _ (Yld.assign rfl) rfl rfl rfl ?_
  refine AO.yld _ (Yld.assign rfl) rfl rfl rfl ?_
  refine AO.nil ?_
  refine AC.seq ?_
  refine AC.seq ?_
  refine AC.region ?_
  refine AO.yld _ (Yld.move rfl) rfl rfl rfl ?_
  refine AO.yld _ (Yld.call rfl rfl Try.call77 rfl rfl rfl (impl_checkMachines_c (by first | assumption | omega) (by assumption)) rfl) rfl rfl rfl ?_
  refine AO.yld _ (Yld.assign rfl) rfl rfl rfl ?_
  refine AO.nil ?_
  refine AC.seq ?_
  refine AC.region ?_
  refine AO.yld _ (Yld.move rfl) rfl rfl rfl ?_
  refine AO.yld _ (Yld.int rfl rfl rfl) rfl rfl rfl ?_
  refine AO.nil ?_
  refine AC.cond _ rfl (fun c13 => ?_) (fun c13 => ?_)
  · -- c13 True
    refine AC.seq ?_
    refine AC.region ?_
    refine AO.yld _ (Yld.move rfl) rfl rfl rfl ?_
    refine AO.yld _ (Yld.assign rfl) rfl rfl rfl ?_
    refine AO.yld _ (Yld.assign rfl) rfl rfl rfl ?_
    refine AO.nil ?_
    refine AC.nilVec 4 0 2 1 rfl rfl ?_
    refine FnE.ret () [0] [0] Try.results21 (RVs.cons (RV.tmp rfl) (RVs.cons (RV.tmp rfl) RVs.nil)) rfl rfl rfl ?_ ?_ ⟨⟨_, rfl, ?_⟩, trivial⟩
    · -- holds
      trivial
    · -- value
      refine tupE ?_; first | (simp_all [lateMachines]; done) | grind [lateMachines]
    · -- thing 0
      refine vecE ?_; first | (simp_all [lateMachines, idxOn]; done) | grind [lateMachines, idxOn]
  · -- c13 False
    have hk0 : askMachines xs = 0 := by first | (simpa using c13) | (exact absurd c13 (by decide))
    have hok := (ask_ok hk0).1
    refine AC.skip ?_
    refine AC.seq ?_
    refine AC.seq ?_
    refine AC.region ?_
    refine AO.yld _ (Yld.move rfl) rfl rfl rfl ?_
    refine AO.yld _ (Yld.int rfl rfl rfl) rfl rfl rfl ?_
    refine AO.nil ?_
    refine AC.cond _ rfl (fun c16 => ?_) (fun c16 => ?_)
    · -- c16 True
      refine AC.seq ?_
      refine AC.region ?_
      refine AO.yld _ (Yld.assign rfl) rfl rfl rfl ?_
      refine AO.yld _ (Yld.assign rfl) rfl rfl rfl ?_
      refine AO.nil ?_
      refine AC.nilVec 4 0 2 1 rfl rfl ?_
      refine FnE.ret () [0] [0] Try.results21 (RVs.cons (RV.tmp rfl) (RVs.cons (RV.tmp rfl) RVs.nil)) rfl rfl rfl ?_ ?_ ⟨⟨_, rfl, ?_⟩, trivial⟩
      · -- holds
        trivial
      · -- value
        refine tupE ?_; first | (simp_all [lateMachines]; done) | grind [lateMachines]
      · -- thing 0
        refine vecE ?_; first | (simp_all [lateMachines, idxOn]; done) | grind [lateMachines, idxOn]
    · -- c16 False
      refine AC.skip ?_
      refine AC.seq ?_
      refine AC.region ?_
      refine AO.yld _ (Yld.assign rfl) rfl rfl rfl ?_
      refine AO.nil ?_
      refine AC.seq ?_
      refine AC.seq ?_
      refine AC.region ?_
      refine AO.yld _ (Yld.move rfl) rfl rfl rfl ?_
      refine AO.yld _ (Yld.len Try.underlying34 rfl rfl) rfl rfl rfl ?_
      refine AO.yld _ (Yld.move rfl) rfl rfl rfl ?_
      refine AO.nil ?_
      refine AC.block ?_
      refine AC.nilVec 7 0 2 1 rfl rfl ?_
      refine AC.loopC [(1, _), (4, _), (5, _), (17, _), (18, _)] [(900, _)] (fun (k : Nat) => [(19, .p (.v (.int .i64 (k : Int)))), (7, .h 0)]) (fun (k : Nat) => [(0, .vec 2 1 ((idxTo (lateB l) xs k).map encI))]) (fun (k : Nat) => k ≤ xs.length) (fun (k : Nat) => xs.length - k) 0 ⟨rfl, rfl, rfl, rfl, rfl, trivial⟩ ⟨rfl, trivial⟩ ⟨rfl, rfl, trivial⟩ ⟨rfl, trivial⟩ ?_ (fun k hJ => ?_)
      · exact Nat.zero_le _
      · -- round
        refine AC.seq ?_
        refine AC.region ?_
        refine AO.yld _ (Yld.int rfl rfl rfl) rfl rfl rfl ?_
        refine AO.nil ?_
        refine AC.seq ?_
        refine AC.cond _ rfl (fun c20 => ?_) (fun c20 => ?_)
        · -- c20 True
          have hk := lt_of_decM c20
          obtain ⟨x, hx⟩ := get_some hk
          have hrow := map_row (enc := encMach) hx
          have hox := machines_at hok hx
          have hlx := mach_lim hox
          have hhu := half_up (a := x.delay) (by omega)
          have hil := idxTo_len (p := (lateB l)) (xs := xs) k
          refine AC.skip ?_
          refine AC.seq ?_
          refine AC.block ?_
          refine AC.seq ?_
          refine AC.region ?_
          refine AO.yld _ (Yld.move rfl) rfl rfl rfl ?_
          refine AO.yld _ (Yld.indexSl Try.underlying34 Try.sizeOf110 rfl rfl hrow rfl) rfl rfl rfl ?_
          refine AO.yld _ (Yld.loadAgg Try.isAgg110 Try.sizeOf110 rfl rfl rfl rfl) rfl rfl rfl ?_
          refine AO.alloc 1 Try.zeroValue110 rfl rfl rfl ?_
          refine AO.yld _ (Yld.assign rfl) rfl rfl rfl ?_
          refine AO.store Try.sizeOf110 rfl rfl rfl rfl rfl rfl ?_
          refine AO.nil ?_
          refine AC.seq ?_
          refine AC.region ?_
          refine AO.yld _ (Yld.move rfl) rfl rfl rfl ?_
          refine AO.yld _ (Yld.fieldAddr Try.underlying110 rfl rfl Try.sizeOf2 rfl rfl rfl) rfl rfl rfl ?_
          refine AO.yld _ (Yld.load Try.isAgg2 rfl rfl) rfl rfl rfl ?_
          refine AO.yld _ (Yld.call rfl rfl Try.call78 rfl rfl rfl (impl_quotientUp_c (by omega) (by omega) (by omega)) rfl) rfl rfl rfl ?_
          refine AO.yld _ (Yld.int rfl rfl rfl) rfl rfl rfl ?_
          refine AO.nil ?_
          refine AC.cond _ rfl (fun c28 => ?_) (fun c28 => ?_)
          · -- c28 True
            refine AC.region ?_
            refine AO.yld _ (Yld.move rfl) rfl rfl rfl ?_
            refine AO.yld _ (Yld.move rfl) rfl rfl rfl ?_
            refine AO.buildSlice (rows := [[_]]) 2 Try.underlying31 ty2 rfl rfl rfl rfl rfl rfl rfl rfl rfl ?_
            refine AO.append 0 Try.underlying31 ty2 rfl rfl rfl rfl rfl rfl rfl (by simp [pvOne]) (by simp only [List.length_map, List.length_cons, List.length_nil]; omega) (by simp only [List.length_map, List.length_cons, List.length_nil]; omega) rfl ?_
            refine AO.yld _ (Yld.assign rfl) rfl rfl rfl ?_
            refine AO.nil ?_
            refine AC.mark ?_
            refine AC.region ?_
            refine AO.yld _ (Yld.add rfl rfl (by omega) (by omega)) rfl rfl rfl ?_
            refine AO.yld _ (Yld.move rfl) rfl rfl rfl ?_
            refine AO.nil ?_
            refine AC.back ⟨k + 1, ?_, ?_, ⟨?_, ?_, trivial⟩, ⟨?_, trivial⟩, ⟨rfl, rfl, rfl, rfl, rfl, trivial⟩, ⟨rfl, trivial⟩⟩
            · exact hk
            · omega
            · rfl
            · rfl
            · first | (rw [idxTo_T hx (by unfold lateB; have h := c28; simp at h ⊢; omega)]; rw [map_snoc]; rfl) | (rw [idxTo_F hx (by unfold lateB; have h := c28; simp at h ⊢; omega)]; rfl)
          · -- c28 False
            refine AC.skip ?_
            refine AC.mark ?_
            refine AC.region ?_
            refine AO.yld _ (Yld.add rfl rfl (by omega) (by omega)) rfl rfl rfl ?_
            refine AO.yld _ (Yld.move rfl) rfl rfl rfl ?_
            refine AO.nil ?_
            refine AC.back ⟨k + 1, ?_, ?_, ⟨?_, ?_, trivial⟩, ⟨?_, trivial⟩, ⟨rfl, rfl, rfl, rfl, rfl, trivial⟩, ⟨rfl, trivial⟩⟩
            · exact hk
            · omega
            · rfl
            · rfl
            · first | (rw [idxTo_T hx (by unfold lateB; have h := c28; simp at h ⊢; omega)]; rw [map_snoc]; rfl) | (rw [idxTo_F hx (by unfold lateB; have h := c28; simp at h ⊢; omega)]; rfl)
        · -- c20 False
          obtain rfl : k = xs.length := by have := ge_of_decM c20; omega
          refine AC.exit rfl ?_
          refine AC.seq ?_
          refine AC.region ?_
          refine AO.yld _ (Yld.move rfl) rfl rfl rfl ?_
          refine AO.yld _ (Yld.assign rfl) rfl rfl rfl ?_
          refine AO.yld _ (Yld.assign rfl) rfl rfl rfl ?_
          refine AO.nil ?_
          refine FnE.ret () [0] [0] Try.results21 (RVs.cons (RV.tmp rfl) (RVs.cons (RV.tmp rfl) RVs.nil)) rfl rfl rfl ?_ ?_ ⟨⟨_, rfl, ?_⟩, trivial⟩
          · -- holds
            trivial
          · -- value
            refine tupE ?_; first | (simp_all [lateMachines]; done) | grind [lateMachines]
          · -- thing 0
            refine vecE ?_; first | (simp_all [lateMachines, idxOn]; done) | grind [lateMachines, idxOn]

theorem spec_FalseClocks_c {xs : List Mach} (hn : xs.length ≤ 1048576) (hs : ∀ x ∈ xs, x.name.length ≤ 1048576) :
    FnE (α := Unit) Try.prog 59 [.p (.sl 3 (xs.map encMach))] [] [] (fun _ => True) (fun _ => .tup [.h 0, .p (.v (.int .i64 (falseClocks xs).2))]) (fun _ => [(0, .vec 2 1 ((falseClocks xs).1.map encI))]) := by
  refine FnE.intro Try.func59 rfl Try.ntmps59 rfl rfl (fun w0 F0 η φ w => ?_)
  refine AC.seq ?_
  refine AC.region ?_
  refine AO.yld _ (Yld.assign rfl) rfl rfl rfl ?_
  refine AO.yld _ (Yld.assign rfl) rfl rfl rfl ?_
  refine AO.nil ?_
  refine AC.seq ?_
  refine AC.region ?_
  refine AO.yld _ (Yld.move rfl) rfl rfl rfl ?_
  refine AO.yld _ (Yld.call rfl rfl Try.call75 rfl rfl rfl (spec_l26Ask_c (by first | assumption | omega) (by assumption)) rfl) rfl rfl rfl ?_
  refine AO.yld _ (Yld.assign rfl) rfl rfl rfl ?_
  refine AO.nil ?_
  refine AC.seq ?_
  refine AC.seq ?_
  refine AC.region ?_
  refine AO.yld _ (Yld.move rfl) rfl rfl rfl ?_
  refine AO.yld _ (Yld.int rfl rfl rfl) rfl rfl rfl ?_
  refine AO.nil ?_
  refine AC.cond _ rfl (fun c13 => ?_) (fun c13 => ?_)
  · -- c13 True
    refine AC.seq ?_
    refine AC.region ?_
    refine AO.yld _ (Yld.move rfl) rfl rfl rfl ?_
    refine AO.yld _ (Yld.assign rfl) rfl rfl rfl ?_
    refine AO.yld _ (Yld.assign rfl) rfl rfl rfl ?_
    refine AO.nil ?_
    refine AC.nilVec 2 0 2 1 rfl rfl ?_
    refine FnE.ret () [0] [0] Try.results59 (RVs.cons (RV.tmp rfl) (RVs.cons (RV.tmp rfl) RVs.nil)) rfl rfl rfl ?_ ?_ ⟨⟨_, rfl, ?_⟩, trivial⟩
    · -- holds
      trivial
    · -- value
      refine tupE ?_; first | (simp_all [falseClocks]; done) | grind [falseClocks]
    · -- thing 0
      refine vecE ?_; first | (simp_all [falseClocks, idxOn]; done) | grind [falseClocks, idxOn]
  · -- c13 False
    have hk0 : askMachines xs = 0 := by first | (simpa using c13) | (exact absurd c13 (by decide))
    have hok := (ask_ok hk0).1
    refine AC.skip ?_
    refine AC.seq ?_
    refine AC.region ?_
    refine AO.yld _ (Yld.move rfl) rfl rfl rfl ?_
    refine AO.yld _ (Yld.call rfl rfl Try.call115 rfl rfl rfl (spec_l26Agree_c (by first | assumption | omega) (by assumption)) rfl) rfl rfl rfl ?_
    refine AO.yld _ (Yld.move rfl) rfl rfl rfl ?_
    refine AO.yld _ (Yld.extract rfl rfl rfl) rfl rfl rfl ?_
    refine AO.yld _ (Yld.extract rfl rfl rfl) rfl rfl rfl ?_
    refine AO.yld _ (Yld.extract rfl rfl rfl) rfl rfl rfl ?_
    refine AO.yld _ (Yld.assign rfl) rfl rfl rfl ?_
    refine AO.yld _ (Yld.assign rfl) rfl rfl rfl ?_
    refine AO.yld _ (Yld.assign rfl) rfl rfl rfl ?_
    refine AO.nil ?_
    refine AC.seq ?_
    refine AC.region ?_
    refine AO.buildSlice (rows := []) 0 Try.underlying31 ty2 rfl rfl rfl rfl rfl rfl rfl rfl rfl ?_
    refine AO.yld _ (Yld.assign rfl) rfl rfl rfl ?_
    refine AO.nil ?_
    refine AC.seq ?_
    refine AC.seq ?_
    refine AC.region ?_
    refine AO.yld _ (Yld.assign rfl) rfl rfl rfl ?_
    refine AO.nil ?_
    refine AC.block ?_
    refine AC.loopC [(0, _), (2, _), (3, _), (5, _)] [(900, _)] (fun (k : Nat) => [(9, .p (.v (.int .i64 (k : Int)))), (8, .h 0)]) (fun (k : Nat) => [(0, .vec 2 1 ((idxTo (falseB (bestB xs xs.length).1) xs k).map encI))]) (fun (k : Nat) => k ≤ xs.length) (fun (k : Nat) => xs.length - k) 0 ⟨rfl, rfl, rfl, rfl, trivial⟩ ⟨rfl, trivial⟩ ⟨rfl, rfl, trivial⟩ ⟨rfl, trivial⟩ ?_ (fun k hJ => ?_)
    · exact Nat.zero_le _
    · -- round
      refine AC.seq ?_
      refine AC.seq ?_
      refine AC.region ?_
      refine AO.yld _ (Yld.move rfl) rfl rfl rfl ?_
      refine AO.yld _ (Yld.move rfl) rfl rfl rfl ?_
      refine AO.yld _ (Yld.len Try.underlying34 rfl rfl) rfl rfl rfl ?_
      refine AO.yld _ (Yld.int rfl rfl rfl) rfl rfl rfl ?_
      refine AO.nil ?_
      refine AC.cond _ rfl (fun c25 => ?_) (fun c25 => ?_)
      · -- c25 True
        have hk := lt_of_decM c25
        obtain ⟨x, hx⟩ := get_some hk
        have hrow := map_row (enc := encMach) hx
        have hox := machines_at hok hx
        have hlx := mach_lim hox
        have hil := idxTo_len (p := (falseB (bestB xs xs.length).1)) (xs := xs) k
        refine AC.skip ?_
        refine AC.seq ?_
        refine AC.block ?_
        refine AC.seq ?_
        refine AC.region ?_
        refine AO.yld _ (Yld.move rfl) rfl rfl rfl ?_
        refine AO.yld _ (Yld.move rfl) rfl rfl rfl ?_
        refine AO.yld _ (Yld.indexSl Try.underlying34 Try.sizeOf110 rfl rfl hrow rfl) rfl rfl rfl ?_
        refine AO.yld _ (Yld.move rfl) rfl rfl rfl ?_
        refine AO.yld _ (Yld.call rfl rfl Try.call116 rfl rfl rfl (spec_l26In_c (by assumption)) rfl) rfl rfl rfl ?_
        refine AO.yld _ (Yld.not rfl) rfl rfl rfl ?_
        refine AO.nil ?_
        refine AC.cond _ rfl (fun c33 => ?_) (fun c33 => ?_)
        · -- c33 True
          refine AC.region ?_
          refine AO.yld _ (Yld.move rfl) rfl rfl rfl ?_
          refine AO.yld _ (Yld.move rfl) rfl rfl rfl ?_
          refine AO.buildSlice (rows := [[_]]) 1 Try.underlying31 ty2 rfl rfl rfl rfl rfl rfl rfl rfl rfl ?_
          refine AO.append 0 Try.underlying31 ty2 rfl rfl rfl rfl rfl rfl rfl (by simp [pvOne]) (by simp only [List.length_map, List.length_cons, List.length_nil]; omega) (by simp only [List.length_map, List.length_cons, List.length_nil]; omega) rfl ?_
          refine AO.yld _ (Yld.assign rfl) rfl rfl rfl ?_
          refine AO.nil ?_
          refine AC.mark ?_
          refine AC.region ?_
          refine AO.yld _ (Yld.move rfl) rfl rfl rfl ?_
          refine AO.yld _ (Yld.add rfl rfl (by omega) (by omega)) rfl rfl rfl ?_
          refine AO.yld _ (Yld.assign rfl) rfl rfl rfl ?_
          refine AO.nil ?_
          refine AC.back ⟨k + 1, ?_, ?_, ⟨?_, ?_, trivial⟩, ⟨?_, trivial⟩, ⟨rfl, rfl, rfl, rfl, trivial⟩, ⟨rfl, trivial⟩⟩
          · exact hk
          · omega
          · rfl
          · rfl
          · first | (rw [idxTo_T hx (c33)]; rw [map_snoc]; rfl) | (rw [idxTo_F hx (c33)]; rfl)
        · -- c33 False
          refine AC.skip ?_
          refine AC.mark ?_
          refine AC.region ?_
          refine AO.yld _ (Yld.move rfl) rfl rfl rfl ?_
          refine AO.yld _ (Yld.add rfl rfl (by omega) (by omega)) rfl rfl rfl ?_
          refine AO.yld _ (Yld.assign rfl) rfl rfl rfl ?_
          refine AO.nil ?_
          refine AC.back ⟨k + 1, ?_, ?_, ⟨?_, ?_, trivial⟩, ⟨?_, trivial⟩, ⟨rfl, rfl, rfl, rfl, trivial⟩, ⟨rfl, trivial⟩⟩
          · exact hk
          · omega
          · rfl
          · rfl
          · first | (rw [idxTo_T hx (c33)]; rw [map_snoc]; rfl) | (rw [idxTo_F hx (c33)]; rfl)
      · -- c25 False
        obtain rfl : k = xs.length := by have := ge_of_decM c25; omega
        refine AC.exit rfl ?_
        refine AC.seq ?_
        refine AC.region ?_
        refine AO.yld _ (Yld.move rfl) rfl rfl rfl ?_
        refine AO.yld _ (Yld.assign rfl) rfl rfl rfl ?_
        refine AO.yld _ (Yld.assign rfl) rfl rfl rfl ?_
        refine AO.nil ?_
        refine FnE.ret () [0] [0] Try.results59 (RVs.cons (RV.tmp rfl) (RVs.cons (RV.tmp rfl) RVs.nil)) rfl rfl rfl ?_ ?_ ⟨⟨_, rfl, ?_⟩, trivial⟩
        · -- holds
          trivial
        · -- value
          refine tupE ?_; first | (simp_all [falseClocks]; done) | grind [falseClocks]
        · -- thing 0
          refine vecE ?_; first | (simp_all [falseClocks, idxOn]; done) | grind [falseClocks, idxOn]

theorem impl_FalseClocks_c {xs : List Mach} (hn : xs.length ≤ 1048576) (hs : ∀ x ∈ xs, x.name.length ≤ 1048576) :
    FnE (α := Unit) Try.prog 60 [.p (.sl 3 (xs.map encMach))] [] [] (fun _ => True) (fun _ => .tup [.h 0, .p (.v (.int .i64 (falseClocks xs).2))]) (fun _ => [(0, .vec 2 1 ((falseClocks xs).1.map encI))]) := by
  refine FnE.intro Try.func60 rfl Try.ntmps60 rfl rfl (fun w0 F0 η φ w => ?_)
  refine AC.seq ?_
  refine AC.region ?_
  refine AO.yld _ (Yld.assign rfl) rfl rfl rfl ?_
  refine AO.yld _ (Yld.assign rfl) rfl rfl rfl ?_
  refine AO.nil ?_
  refine AC.seq ?_
  refine AC.seq ?_
  refine AC.region ?_
  refine AO.yld _ (Yld.move rfl) rfl rfl rfl ?_
  refine AO.yld _ (Yld.call rfl rfl Try.call77 rfl rfl rfl (impl_checkMachines_c (by first | assumption | omega) (by assumption)) rfl) rfl rfl rfl ?_
  refine AO.yld _ (Yld.assign rfl) rfl rfl rfl ?_
  refine AO.nil ?_
  refine AC.seq ?_
  refine AC.region ?_
  refine AO.yld _ (Yld.move rfl) rfl rfl rfl ?_
  refine AO.yld _ (Yld.int rfl rfl rfl) rfl rfl rfl ?_
  refine AO.nil ?_
  refine AC.cond _ rfl (fun c13 => ?_) (fun c13 => ?_)
  · -- c13 True
    refine AC.seq ?_
    refine AC.region ?_
    refine AO.yld _ (Yld.move rfl) rfl rfl rfl ?_
    refine AO.yld _ (Yld.assign rfl) rfl rfl rfl ?_
    refine AO.yld _ (Yld.assign rfl) rfl rfl rfl ?_
    refine AO.nil ?_
    refine AC.nilVec 2 0 2 1 rfl rfl ?_
    refine FnE.ret () [0] [0] Try.results60 (RVs.cons (RV.tmp rfl) (RVs.cons (RV.tmp rfl) RVs.nil)) rfl rfl rfl ?_ ?_ ⟨⟨_, rfl, ?_⟩, trivial⟩
    · -- holds
      trivial
    · -- value
      refine tupE ?_; first | (simp_all [falseClocks]; done) | grind [falseClocks]
    · -- thing 0
      refine vecE ?_; first | (simp_all [falseClocks, idxOn]; done) | grind [falseClocks, idxOn]
  · -- c13 False
    have hk0 : askMachines xs = 0 := by first | (simpa using c13) | (exact absurd c13 (by decide))
    have hok := (ask_ok hk0).1
    refine AC.skip ?_
    refine AC.seq ?_
    refine AC.region ?_
    refine AO.yld _ (Yld.move rfl) rfl rfl rfl ?_
    refine AO.yld _ (Yld.call rfl rfl Try.call117 rfl rfl rfl (impl_agreedOffset_c (by first | assumption | omega) (by assumption)) rfl) rfl rfl rfl ?_
    refine AO.yld _ (Yld.move rfl) rfl rfl rfl ?_
    refine AO.yld _ (Yld.extract rfl rfl rfl) rfl rfl rfl ?_
    refine AO.yld _ (Yld.extract rfl rfl rfl) rfl rfl rfl ?_
    refine AO.yld _ (Yld.assign rfl) rfl rfl rfl ?_
    refine AO.yld _ (Yld.assign rfl) rfl rfl rfl ?_
    refine AO.nil ?_
    refine AC.seq ?_
    refine AC.region ?_
    refine AO.yld _ (Yld.assign rfl) rfl rfl rfl ?_
    refine AO.nil ?_
    refine AC.seq ?_
    refine AC.seq ?_
    refine AC.region ?_
    refine AO.yld _ (Yld.move rfl) rfl rfl rfl ?_
    refine AO.yld _ (Yld.len Try.underlying34 rfl rfl) rfl rfl rfl ?_
    refine AO.yld _ (Yld.move rfl) rfl rfl rfl ?_
    refine AO.nil ?_
    refine AC.block ?_
    refine AC.nilVec 7 0 2 1 rfl rfl ?_
    refine AC.loopC [(2, _), (3, _), (5, _), (20, _), (21, _)] [(900, _)] (fun (k : Nat) => [(22, .p (.v (.int .i64 (k : Int)))), (7, .h 0)]) (fun (k : Nat) => [(0, .vec 2 1 ((idxTo (falseB (bestB xs xs.length).1) xs k).map encI))]) (fun (k : Nat) => k ≤ xs.length) (fun (k : Nat) => xs.length - k) 0 ⟨rfl, rfl, rfl, rfl, rfl, trivial⟩ ⟨rfl, trivial⟩ ⟨rfl, rfl, trivial⟩ ⟨rfl, trivial⟩ ?_ (fun k hJ => ?_)
    · exact Nat.zero_le _
    · -- round
      refine AC.seq ?_
      refine AC.region ?_
      refine AO.yld _ (Yld.int rfl rfl rfl) rfl rfl rfl ?_
      refine AO.nil ?_
      refine AC.seq ?_
      refine AC.cond _ rfl (fun c23 => ?_) (fun c23 => ?_)
      · -- c23 True
        have hk := lt_of_decM c23
        obtain ⟨x, hx⟩ := get_some hk
        have hrow := map_row (enc := encMach) hx
        have hox := machines_at hok hx
        have hlx := mach_lim hox
        have hil := idxTo_len (p := (falseB (bestB xs xs.length).1)) (xs := xs) k
        refine AC.skip ?_
        refine AC.seq ?_
        refine AC.block ?_
        refine AC.seq ?_
        refine AC.region ?_
        refine AO.yld _ (Yld.move rfl) rfl rfl rfl ?_
        refine AO.yld _ (Yld.indexSl Try.underlying34 Try.sizeOf110 rfl rfl hrow rfl) rfl rfl rfl ?_
        refine AO.yld _ (Yld.loadAgg Try.isAgg110 Try.sizeOf110 rfl rfl rfl rfl) rfl rfl rfl ?_
        refine AO.alloc 1 Try.zeroValue110 rfl rfl rfl ?_
        refine AO.yld _ (Yld.assign rfl) rfl rfl rfl ?_
        refine AO.store Try.sizeOf110 rfl rfl rfl rfl rfl rfl ?_
        refine AO.nil ?_
        refine AC.seq ?_
        refine AC.region ?_
        refine AO.yld _ (Yld.loadAgg Try.isAgg110 Try.sizeOf110 rfl rfl rfl rfl) rfl rfl rfl ?_
        refine AO.yld _ (Yld.move rfl) rfl rfl rfl ?_
        refine AO.yld _ (Yld.call rfl rfl Try.call118 rfl rfl rfl (impl_liesIn_c (by assumption)) rfl) rfl rfl rfl ?_
        refine AO.yld _ (Yld.not rfl) rfl rfl rfl ?_
        refine AO.nil ?_
        refine AC.cond _ rfl (fun c30 => ?_) (fun c30 => ?_)
        · -- c30 True
          refine AC.region ?_
          refine AO.yld _ (Yld.move rfl) rfl rfl rfl ?_
          refine AO.yld _ (Yld.move rfl) rfl rfl rfl ?_
          refine AO.buildSlice (rows := [[_]]) 2 Try.underlying31 ty2 rfl rfl rfl rfl rfl rfl rfl rfl rfl ?_
          refine AO.append 0 Try.underlying31 ty2 rfl rfl rfl rfl rfl rfl rfl (by simp [pvOne]) (by simp only [List.length_map, List.length_cons, List.length_nil]; omega) (by simp only [List.length_map, List.length_cons, List.length_nil]; omega) rfl ?_
          refine AO.yld _ (Yld.assign rfl) rfl rfl rfl ?_
          refine AO.nil ?_
          refine AC.mark ?_
          refine AC.region ?_
          refine AO.yld _ (Yld.add rfl rfl (by omega) (by omega)) rfl rfl rfl ?_
          refine AO.yld _ (Yld.move rfl) rfl rfl rfl ?_
          refine AO.nil ?_
          refine AC.back ⟨k + 1, ?_, ?_, ⟨?_, ?_, trivial⟩, ⟨?_, trivial⟩, ⟨rfl, rfl, rfl, rfl, rfl, trivial⟩, ⟨rfl, trivial⟩⟩
          · exact hk
          · omega
          · rfl
          · rfl
          · first | (rw [idxTo_T hx (c30)]; rw [map_snoc]; rfl) | (rw [idxTo_F hx (c30)]; rfl)
        · -- c30 False
          refine AC.skip ?_
          refine AC.mark ?_
          refine AC.region ?_
          refine AO.yld _ (Yld.add rfl rfl (by omega) (by omega)) rfl rfl rfl ?_
          refine AO.yld _ (Yld.move rfl) rfl rfl rfl ?_
          refine AO.nil ?_
          refine AC.back ⟨k + 1, ?_, ?_, ⟨?_, ?_, trivial⟩, ⟨?_, trivial⟩, ⟨rfl, rfl, rfl, rfl, rfl, trivial⟩, ⟨rfl, trivial⟩⟩
          · exact hk
          · omega
          · rfl
          · rfl
          · first | (rw [idxTo_T hx (c30)]; rw [map_snoc]; rfl) | (rw [idxTo_F hx (c30)]; rfl)
      · -- c23 False
        obtain rfl : k = xs.length := by have := ge_of_decM c23; omega
        refine AC.exit rfl ?_
        refine AC.seq ?_
        refine AC.region ?_
        refine AO.yld _ (Yld.move rfl) rfl rfl rfl ?_
        refine AO.yld _ (Yld.assign rfl) rfl rfl rfl ?_
        refine AO.yld _ (Yld.assign rfl) rfl rfl rfl ?_
        refine AO.nil ?_
        refine FnE.ret () [0] [0] Try.results60 (RVs.cons (RV.tmp rfl) (RVs.cons (RV.tmp rfl) RVs.nil)) rfl rfl rfl ?_ ?_ ⟨⟨_, rfl, ?_⟩, trivial⟩
        · -- holds
          trivial
        · -- value
          refine tupE ?_; first | (simp_all [falseClocks]; done) | grind [falseClocks]
        · -- thing 0
          refine vecE ?_; first | (simp_all [falseClocks, idxOn]; done) | grind [falseClocks, idxOn]

theorem spec_OddMarks_c {xs : List CMark} {lim : Int} (hn : xs.length ≤ 1048576) (hw : ∀ x ∈ xs, i64b x.az ∧ i64b x.al ∧ i64b x.found ∧ i64b x.height) :
    FnE (α := Unit) Try.prog 61 [.p (.sl 4 (xs.map encCMark)), .p (.v (.int .i64 lim))] [] [] (fun _ => True) (fun _ => .tup [.h 0, .p (.v (.int .i64 (oddMarks xs lim).2))]) (fun _ => [(0, .vec 2 1 ((oddMarks xs lim).1.map encI))]) := by
  refine FnE.intro Try.func61 rfl Try.ntmps61 rfl rfl (fun w0 F0 η φ w => ?_)
  refine AC.seq ?_
  refine AC.region ?_
  refine AO.yld _ (Yld.assign rfl) rfl rfl rfl ?_
  refine AO.yld _ (Yld.assign rfl) rfl rfl rfl ?_
  refine AO.nil ?_
  refine AC.seq ?_
  refine AC.region ?_
  refine AO.yld _ (Yld.move rfl) rfl rfl rfl ?_
  refine AO.yld _ (Yld.call rfl rfl Try.call93 rfl rfl rfl (spec_l28Ask_c (by first | assumption | omega) (by assumption)) rfl) rfl rfl rfl ?_
  refine AO.yld _ (Yld.assign rfl) rfl rfl rfl ?_
  refine AO.nil ?_
  refine AC.seq ?_
  refine AC.seq ?_
  refine AC.region ?_
  refine AO.yld _ (Yld.move rfl) rfl rfl rfl ?_
  refine AO.yld _ (Yld.int rfl rfl rfl) rfl rfl rfl ?_
  refine AO.yld _ (Yld.move rfl) rfl rfl rfl ?_
  refine AO.splitAt 17 _ rfl (fun s17 => ?_) (fun s17 => ?_)
  · -- s17 True
    refine AO.yldG _ (Yld.move rfl) rfl rfl rfl rfl rfl ?_
    refine AO.yldG _ (Yld.call rfl rfl Try.call119 rfl rfl rfl (spec_l00In_c) rfl) rfl rfl rfl rfl rfl ?_
    refine AO.yldG _ (Yld.not rfl) rfl rfl rfl rfl rfl ?_
    refine AO.yld _ (Yld.pickT rfl rfl) rfl rfl rfl ?_
    refine AO.nil ?_
    refine AC.cond _ rfl (fun c21 => ?_) (fun c21 => ?_)
    · -- c21 True
      refine AC.region ?_
      refine AO.yld _ (Yld.assign rfl) rfl rfl rfl ?_
      refine AO.nil ?_
      refine AC.seq ?_
      refine AC.seq ?_
      refine AC.region ?_
      refine AO.yld _ (Yld.move rfl) rfl rfl rfl ?_
      refine AO.yld _ (Yld.int rfl rfl rfl) rfl rfl rfl ?_
      refine AO.nil ?_
      refine AC.cond _ rfl (fun c23 => ?_) (fun c23 => ?_)
      · -- c23 True
        refine AC.seq ?_
        refine AC.region ?_
        refine AO.yld _ (Yld.move rfl) rfl rfl rfl ?_
        refine AO.yld _ (Yld.assign rfl) rfl rfl rfl ?_
        refine AO.yld _ (Yld.assign rfl) rfl rfl rfl ?_
        refine AO.nil ?_
        refine AC.nilVec 4 0 2 1 rfl rfl ?_
        refine FnE.ret () [0] [0] Try.results61 (RVs.cons (RV.tmp rfl) (RVs.cons (RV.tmp rfl) RVs.nil)) rfl rfl rfl ?_ ?_ ⟨⟨_, rfl, ?_⟩, trivial⟩
        · -- holds
          trivial
        · -- value
          refine tupE ?_; first | (simp_all [oddMarks, fitT, fitL]; done) | grind [oddMarks, fitT, fitL]
        · -- thing 0
          refine vecE ?_; first | (simp_all [oddMarks, fitT, fitL, idxOn]; done) | grind [oddMarks, fitT, fitL, idxOn]
      · -- c23 False
        have hk0 : askMarks xs = 0 := by first | (simpa using c23) | (exact absurd c23 (by decide))
        obtain ⟨hall, hl1⟩ := askMarks_ok hk0
        have ht9 : -180000 ≤ (divR (sumTo turnOf xs xs.length) xs.length) ∧ (divR (sumTo turnOf xs xs.length) xs.length) ≤ 180000 := fitT_lim hk0
        have hl9 : -90000 ≤ (divR (sumTo liftOf xs xs.length) xs.length) ∧ (divR (sumTo liftOf xs xs.length) xs.length) ≤ 90000 := fitL_lim hk0
        refine AC.skip ?_
        refine AC.seq ?_
        refine AC.region ?_
        refine AO.yld _ (Yld.move rfl) rfl rfl rfl ?_
        refine AO.yld _ (Yld.call rfl rfl Try.call120 rfl rfl rfl (spec_l28Fit_c hl1 hall) rfl) rfl rfl rfl ?_
        refine AO.yld _ (Yld.move rfl) rfl rfl rfl ?_
        refine AO.yld _ (Yld.extract rfl rfl rfl) rfl rfl rfl ?_
        refine AO.yld _ (Yld.extract rfl rfl rfl) rfl rfl rfl ?_
        refine AO.yld _ (Yld.assign rfl) rfl rfl rfl ?_
        refine AO.yld _ (Yld.assign rfl) rfl rfl rfl ?_
        refine AO.nil ?_
        refine AC.seq ?_
        refine AC.region ?_
        refine AO.buildSlice (rows := []) 0 Try.underlying31 ty2 rfl rfl rfl rfl rfl rfl rfl rfl rfl ?_
        refine AO.yld _ (Yld.assign rfl) rfl rfl rfl ?_
        refine AO.nil ?_
        refine AC.seq ?_
        refine AC.seq ?_
        refine AC.region ?_
        refine AO.yld _ (Yld.assign rfl) rfl rfl rfl ?_
        refine AO.nil ?_
        refine AC.block ?_
        refine AC.loopC [(0, _), (1, _), (4, _), (5, _), (7, _), (8, _)] [(900, _)] (fun (k : Nat) => [(10, .p (.v (.int .i64 (k : Int)))), (9, .h 0)]) (fun (k : Nat) => [(0, .vec 2 1 ((idxTo (oddB (divR (sumTo turnOf xs xs.length) xs.length) (divR (sumTo liftOf xs xs.length) xs.length) lim) xs k).map encI))]) (fun (k : Nat) => k ≤ xs.length) (fun (k : Nat) => xs.length - k) 0 ⟨rfl, rfl, rfl, rfl, rfl, rfl, trivial⟩ ⟨rfl, trivial⟩ ⟨rfl, rfl, trivial⟩ ⟨rfl, trivial⟩ ?_ (fun k hJ => ?_)
        · exact Nat.zero_le _
        · -- round
          refine AC.seq ?_
          refine AC.seq ?_
          refine AC.region ?_
          refine AO.yld _ (Yld.move rfl) rfl rfl rfl ?_
          refine AO.yld _ (Yld.move rfl) rfl rfl rfl ?_
          refine AO.yld _ (Yld.len Try.underlying55 rfl rfl) rfl rfl rfl ?_
          refine AO.yld _ (Yld.int rfl rfl rfl) rfl rfl rfl ?_
          refine AO.nil ?_
          refine AC.cond _ rfl (fun c34 => ?_) (fun c34 => ?_)
          · -- c34 True
            have hk := lt_of_decM c34
            obtain ⟨x, hx⟩ := get_some hk
            have hrow := map_row (enc := encCMark) hx
            have hlm := mark_lim (all_at hall hx)
            have hsg := signed_lim x.found x.az
            have hab := absI_lim (signed x.found x.az - (divR (sumTo turnOf xs xs.length) xs.length))
            have hab2 := absI_lim (x.al - x.height - (divR (sumTo liftOf xs xs.length) xs.length))
            have hil := idxTo_len (p := (oddB (divR (sumTo turnOf xs xs.length) xs.length) (divR (sumTo liftOf xs xs.length) xs.length) lim)) (xs := xs) k
            refine AC.skip ?_
            refine AC.seq ?_
            refine AC.block ?_
            refine AC.seq ?_
            refine AC.draw (by kernel_rfl) (by kernel_rfl) ?_
            refine AO.yld _ (Yld.move rfl) rfl rfl rfl ?_
            refine AO.yld _ (Yld.move rfl) rfl rfl rfl ?_
            refine AO.yld _ (Yld.indexSl Try.underlying55 Try.sizeOf134 rfl rfl hrow rfl) rfl rfl rfl ?_
            refine AO.yld _ (Yld.fieldAddr Try.underlying134 rfl rfl Try.sizeOf2 rfl rfl rfl) rfl rfl rfl ?_
            refine AO.yld _ (Yld.load Try.isAgg2 rfl rfl) rfl rfl rfl ?_
            refine AO.yld _ (Yld.move rfl) rfl rfl rfl ?_
            refine AO.yld _ (Yld.move rfl) rfl rfl rfl ?_
            refine AO.yld _ (Yld.indexSl Try.underlying55 Try.sizeOf134 rfl rfl hrow rfl) rfl rfl rfl ?_
            refine AO.yld _ (Yld.fieldAddr Try.underlying134 rfl rfl Try.sizeOf2 rfl rfl rfl) rfl rfl rfl ?_
            refine AO.yld _ (Yld.load Try.isAgg2 rfl rfl) rfl rfl rfl ?_
            refine AO.yld _ (Yld.call rfl rfl Try.call122 rfl rfl rfl (spec_l02Signed_c (by omega) (by omega) (by omega) (by omega)) rfl) rfl rfl rfl ?_
            refine AO.yld _ (Yld.move rfl) rfl rfl rfl ?_
            refine AO.yld _ (Yld.sub rfl rfl (by omega) (by omega)) rfl rfl rfl ?_
            refine AO.yld _ (Yld.call rfl rfl Try.call121 rfl rfl rfl (spec_l02Abs_c (by omega) (by omega)) rfl) rfl rfl rfl ?_
            refine AO.yld _ (Yld.assign rfl) rfl rfl rfl ?_
            refine AO.nil ?_
            refine AC.seq ?_
            refine AC.draw (by kernel_rfl) (by kernel_rfl) ?_
            refine AO.yld _ (Yld.move rfl) rfl rfl rfl ?_
            refine AO.yld _ (Yld.move rfl) rfl rfl rfl ?_
            refine AO.yld _ (Yld.indexSl Try.underlying55 Try.sizeOf134 rfl rfl hrow rfl) rfl rfl rfl ?_
            refine AO.yld _ (Yld.fieldAddr Try.underlying134 rfl rfl Try.sizeOf2 rfl rfl rfl) rfl rfl rfl ?_
            refine AO.yld _ (Yld.load Try.isAgg2 rfl rfl) rfl rfl rfl ?_
            refine AO.yld _ (Yld.move rfl) rfl rfl rfl ?_
            refine AO.yld _ (Yld.move rfl) rfl rfl rfl ?_
            refine AO.yld _ (Yld.indexSl Try.underlying55 Try.sizeOf134 rfl rfl hrow rfl) rfl rfl rfl ?_
            refine AO.yld _ (Yld.fieldAddr Try.underlying134 rfl rfl Try.sizeOf2 rfl rfl rfl) rfl rfl rfl ?_
            refine AO.yld _ (Yld.load Try.isAgg2 rfl rfl) rfl rfl rfl ?_
            refine AO.yld _ (Yld.sub rfl rfl (by omega) (by omega)) rfl rfl rfl ?_
            refine AO.yld _ (Yld.move rfl) rfl rfl rfl ?_
            refine AO.yld _ (Yld.sub rfl rfl (by omega) (by omega)) rfl rfl rfl ?_
            refine AO.yld _ (Yld.call rfl rfl Try.call121 rfl rfl rfl (spec_l02Abs_c (by omega) (by omega)) rfl) rfl rfl rfl ?_
            refine AO.yld _ (Yld.assign rfl) rfl rfl rfl ?_
            refine AO.nil ?_
            refine AC.seq ?_
            refine AC.region ?_
            refine AO.yld _ (Yld.move rfl) rfl rfl rfl ?_
            refine AO.yld _ (Yld.move rfl) rfl rfl rfl ?_
            refine AO.yld _ (Yld.int rfl rfl rfl) rfl rfl rfl ?_
            refine AO.yld _ (Yld.move rfl) rfl rfl rfl ?_
            refine AO.splitAt 68 _ rfl (fun s68 => ?_) (fun s68 => ?_)
            · -- s68 True
              refine AO.skipF rfl rfl rfl rfl rfl ?_
              refine AO.skipF rfl rfl rfl rfl rfl ?_
              refine AO.skipF rfl rfl rfl rfl rfl ?_
              refine AO.yld _ (Yld.pickT rfl rfl) rfl rfl rfl ?_
              refine AO.nil ?_
              refine AC.condT rfl ?_
              refine AC.region ?_
              refine AO.yld _ (Yld.move rfl) rfl rfl rfl ?_
              refine AO.yld _ (Yld.move rfl) rfl rfl rfl ?_
              refine AO.buildSlice (rows := [[_]]) 1 Try.underlying31 ty2 rfl rfl rfl rfl rfl rfl rfl rfl rfl ?_
              refine AO.append 0 Try.underlying31 ty2 rfl rfl rfl rfl rfl rfl rfl (by simp [pvOne]) (by simp only [List.length_map, List.length_cons, List.length_nil]; omega) (by simp only [List.length_map, List.length_cons, List.length_nil]; omega) rfl ?_
              refine AO.yld _ (Yld.assign rfl) rfl rfl rfl ?_
              refine AO.nil ?_
              refine AC.mark ?_
              refine AC.region ?_
              refine AO.yld _ (Yld.move rfl) rfl rfl rfl ?_
              refine AO.yld _ (Yld.add rfl rfl (by omega) (by omega)) rfl rfl rfl ?_
              refine AO.yld _ (Yld.assign rfl) rfl rfl rfl ?_
              refine AO.nil ?_
              refine AC.back ⟨k + 1, ?_, ?_, ⟨?_, ?_, trivial⟩, ⟨?_, trivial⟩, ⟨rfl, rfl, rfl, rfl, rfl, rfl, trivial⟩, ⟨rfl, trivial⟩⟩
              · exact hk
              · omega
              · rfl
              · rfl
              · first | (rw [idxTo_T hx (by (try simp only [oddB, turnOf, liftOf]); first | (simp_all; done) | grind)]; rw [map_snoc]; rfl) | (rw [idxTo_F hx (by (try simp only [oddB, turnOf, liftOf]); first | (simp_all; done) | grind)]; rfl)
            · -- s68 False
              refine AO.yldG _ (Yld.move rfl) rfl rfl rfl rfl rfl ?_
              refine AO.yldG _ (Yld.move rfl) rfl rfl rfl rfl rfl ?_
              refine AO.yldG _ (Yld.int rfl rfl rfl) rfl rfl rfl rfl rfl ?_
              refine AO.yld _ (Yld.pickF rfl rfl) rfl rfl rfl ?_
              refine AO.nil ?_
              refine AC.cond _ rfl (fun c72 => ?_) (fun c72 => ?_)
              · -- c72 True
                refine AC.region ?_
                refine AO.yld _ (Yld.move rfl) rfl rfl rfl ?_
                refine AO.yld _ (Yld.move rfl) rfl rfl rfl ?_
                refine AO.buildSlice (rows := [[_]]) 1 Try.underlying31 ty2 rfl rfl rfl rfl rfl rfl rfl rfl rfl ?_
                refine AO.append 0 Try.underlying31 ty2 rfl rfl rfl rfl rfl rfl rfl (by simp [pvOne]) (by simp only [List.length_map, List.length_cons, List.length_nil]; omega) (by simp only [List.length_map, List.length_cons, List.length_nil]; omega) rfl ?_
                refine AO.yld _ (Yld.assign rfl) rfl rfl rfl ?_
                refine AO.nil ?_
                refine AC.mark ?_
                refine AC.region ?_
                refine AO.yld _ (Yld.move rfl) rfl rfl rfl ?_
                refine AO.yld _ (Yld.add rfl rfl (by omega) (by omega)) rfl rfl rfl ?_
                refine AO.yld _ (Yld.assign rfl) rfl rfl rfl ?_
                refine AO.nil ?_
                refine AC.back ⟨k + 1, ?_, ?_, ⟨?_, ?_, trivial⟩, ⟨?_, trivial⟩, ⟨rfl, rfl, rfl, rfl, rfl, rfl, trivial⟩, ⟨rfl, trivial⟩⟩
                · exact hk
                · omega
                · rfl
                · rfl
                · first | (rw [idxTo_T hx (by (try simp only [oddB, turnOf, liftOf]); first | (simp_all; done) | grind)]; rw [map_snoc]; rfl) | (rw [idxTo_F hx (by (try simp only [oddB, turnOf, liftOf]); first | (simp_all; done) | grind)]; rfl)
              · -- c72 False
                refine AC.skip ?_
                refine AC.mark ?_
                refine AC.region ?_
                refine AO.yld _ (Yld.move rfl) rfl rfl rfl ?_
                refine AO.yld _ (Yld.add rfl rfl (by omega) (by omega)) rfl rfl rfl ?_
                refine AO.yld _ (Yld.assign rfl) rfl rfl rfl ?_
                refine AO.nil ?_
                refine AC.back ⟨k + 1, ?_, ?_, ⟨?_, ?_, trivial⟩, ⟨?_, trivial⟩, ⟨rfl, rfl, rfl, rfl, rfl, rfl, trivial⟩, ⟨rfl, trivial⟩⟩
                · exact hk
                · omega
                · rfl
                · rfl
                · first | (rw [idxTo_T hx (by (try simp only [oddB, turnOf, liftOf]); first | (simp_all; done) | grind)]; rw [map_snoc]; rfl) | (rw [idxTo_F hx (by (try simp only [oddB, turnOf, liftOf]); first | (simp_all; done) | grind)]; rfl)
          · -- c34 False
            obtain rfl : k = xs.length := by have := ge_of_decM c34; omega
            refine AC.exit rfl ?_
            refine AC.seq ?_
            refine AC.region ?_
            refine AO.yld _ (Yld.move rfl) rfl rfl rfl ?_
            refine AO.yld _ (Yld.assign rfl) rfl rfl rfl ?_
            refine AO.yld _ (Yld.assign rfl) rfl rfl rfl ?_
            refine AO.nil ?_
            refine FnE.ret () [0] [0] Try.results61 (RVs.cons (RV.tmp rfl) (RVs.cons (RV.tmp rfl) RVs.nil)) rfl rfl rfl ?_ ?_ ⟨⟨_, rfl, ?_⟩, trivial⟩
            · -- holds
              trivial
            · -- value
              refine tupE ?_; first | (simp_all [oddMarks, fitT, fitL]; done) | grind [oddMarks, fitT, fitL]
            · -- thing 0
              refine vecE ?_; first | (simp_all [oddMarks, fitT, fitL, idxOn]; done) | grind [oddMarks, fitT, fitL, idxOn]
    · -- c21 False
      refine AC.skip ?_
      refine AC.seq ?_
      refine AC.seq ?_
      refine AC.region ?_
      refine AO.yld _ (Yld.move rfl) rfl rfl rfl ?_
      refine AO.yld _ (Yld.int rfl rfl rfl) rfl rfl rfl ?_
      refine AO.nil ?_
      refine AC.cond _ rfl (fun c23 => ?_) (fun c23 => ?_)
      · -- c23 True
        refine AC.seq ?_
        refine AC.region ?_
        refine AO.yld _ (Yld.move rfl) rfl rfl rfl ?_
        refine AO.yld _ (Yld.assign rfl) rfl rfl rfl ?_
        refine AO.yld _ (Yld.assign rfl) rfl rfl rfl ?_
        refine AO.nil ?_
        refine AC.nilVec 4 0 2 1 rfl rfl ?_
        refine FnE.ret () [0] [0] Try.results61 (RVs.cons (RV.tmp rfl) (RVs.cons (RV.tmp rfl) RVs.nil)) rfl rfl rfl ?_ ?_ ⟨⟨_, rfl, ?_⟩, trivial⟩
        · -- holds
          trivial
        · -- value
          refine tupE ?_; first | (simp_all [oddMarks, fitT, fitL]; done) | grind [oddMarks, fitT, fitL]
        · -- thing 0
          refine vecE ?_; first | (simp_all [oddMarks, fitT, fitL, idxOn]; done) | grind [oddMarks, fitT, fitL, idxOn]
      · -- c23 False
        have hk0 : askMarks xs = 0 := by first | (simpa using c23) | (exact absurd c23 (by decide))
        obtain ⟨hall, hl1⟩ := askMarks_ok hk0
        have ht9 : -180000 ≤ (divR (sumTo turnOf xs xs.length) xs.length) ∧ (divR (sumTo turnOf xs xs.length) xs.length) ≤ 180000 := fitT_lim hk0
        have hl9 : -90000 ≤ (divR (sumTo liftOf xs xs.length) xs.length) ∧ (divR (sumTo liftOf xs xs.length) xs.length) ≤ 90000 := fitL_lim hk0
        refine AC.skip ?_
        refine AC.seq ?_
        refine AC.region ?_
        refine AO.yld _ (Yld.move rfl) rfl rfl rfl ?_
        refine AO.yld _ (Yld.call rfl rfl Try.call120 rfl rfl rfl (spec_l28Fit_c hl1 hall) rfl) rfl rfl rfl ?_
        refine AO.yld _ (Yld.move rfl) rfl rfl rfl ?_
        refine AO.yld _ (Yld.extract rfl rfl rfl) rfl rfl rfl ?_
        refine AO.yld _ (Yld.extract rfl rfl rfl) rfl rfl rfl ?_
        refine AO.yld _ (Yld.assign rfl) rfl rfl rfl ?_
        refine AO.yld _ (Yld.assign rfl) rfl rfl rfl ?_
        refine AO.nil ?_
        refine AC.seq ?_
        refine AC.region ?_
        refine AO.buildSlice (rows := []) 0 Try.underlying31 ty2 rfl rfl rfl rfl rfl rfl rfl rfl rfl ?_
        refine AO.yld _ (Yld.assign rfl) rfl rfl rfl ?_
        refine AO.nil ?_
        refine AC.seq ?_
        refine AC.seq ?_
        refine AC.region ?_
        refine AO.yld _ (Yld.assign rfl) rfl rfl rfl ?_
        refine AO.nil ?_
        refine AC.block ?_
        refine AC.loopC [(0, _), (1, _), (4, _), (5, _), (7, _), (8, _)] [(900, _)] (fun (k : Nat) => [(10, .p (.v (.int .i64 (k : Int)))), (9, .h 0)]) (fun (k : Nat) => [(0, .vec 2 1 ((idxTo (oddB (divR (sumTo turnOf xs xs.length) xs.length) (divR (sumTo liftOf xs xs.length) xs.length) lim) xs k).map encI))]) (fun (k : Nat) => k ≤ xs.length) (fun (k : Nat) => xs.length - k) 0 ⟨rfl, rfl, rfl, rfl, rfl, rfl, trivial⟩ ⟨rfl, trivial⟩ ⟨rfl, rfl, trivial⟩ ⟨rfl, trivial⟩ ?_ (fun k hJ => ?_)
        · exact Nat.zero_le _
        · -- round
          refine AC.seq ?_
          refine AC.seq ?_
          refine AC.region ?_
          refine AO.yld _ (Yld.move rfl) rfl rfl rfl ?_
          refine AO.yld _ (Yld.move rfl) rfl rfl rfl ?_
          refine AO.yld _ (Yld.len Try.underlying55 rfl rfl) rfl rfl rfl ?_
          refine AO.yld _ (Yld.int rfl rfl rfl) rfl rfl rfl ?_
          refine AO.nil ?_
          refine AC.cond _ rfl (fun c34 => ?_) (fun c34 => ?_)
          · -- c34 True
            have hk := lt_of_decM c34
            obtain ⟨x, hx⟩ := get_some hk
            have hrow := map_row (enc := encCMark) hx
            have hlm := mark_lim (all_at hall hx)
            have hsg := signed_lim x.found x.az
            have hab := absI_lim (signed x.found x.az - (divR (sumTo turnOf xs xs.length) xs.length))
            have hab2 := absI_lim (x.al - x.height - (divR (sumTo liftOf xs xs.length) xs.length))
            have hil := idxTo_len (p := (oddB (divR (sumTo turnOf xs xs.length) xs.length) (divR (sumTo liftOf xs xs.length) xs.length) lim)) (xs := xs) k
            refine AC.skip ?_
            refine AC.seq ?_
            refine AC.block ?_
            refine AC.seq ?_
            refine AC.draw (by kernel_rfl) (by kernel_rfl) ?_
            refine AO.yld _ (Yld.move rfl) rfl rfl rfl ?_
            refine AO.yld _ (Yld.move rfl) rfl rfl rfl ?_
            refine AO.yld _ (Yld.indexSl Try.underlying55 Try.sizeOf134 rfl rfl hrow rfl) rfl rfl rfl ?_
            refine AO.yld _ (Yld.fieldAddr Try.underlying134 rfl rfl Try.sizeOf2 rfl rfl rfl) rfl rfl rfl ?_
            refine AO.yld _ (Yld.load Try.isAgg2 rfl rfl) rfl rfl rfl ?_
            refine AO.yld _ (Yld.move rfl) rfl rfl rfl ?_
            refine AO.yld _ (Yld.move rfl) rfl rfl rfl ?_
            refine AO.yld _ (Yld.indexSl Try.underlying55 Try.sizeOf134 rfl rfl hrow rfl) rfl rfl rfl ?_
            refine AO.yld _ (Yld.fieldAddr Try.underlying134 rfl rfl Try.sizeOf2 rfl rfl rfl) rfl rfl rfl ?_
            refine AO.yld _ (Yld.load Try.isAgg2 rfl rfl) rfl rfl rfl ?_
            refine AO.yld _ (Yld.call rfl rfl Try.call122 rfl rfl rfl (spec_l02Signed_c (by omega) (by omega) (by omega) (by omega)) rfl) rfl rfl rfl ?_
            refine AO.yld _ (Yld.move rfl) rfl rfl rfl ?_
            refine AO.yld _ (Yld.sub rfl rfl (by omega) (by omega)) rfl rfl rfl ?_
            refine AO.yld _ (Yld.call rfl rfl Try.call121 rfl rfl rfl (spec_l02Abs_c (by omega) (by omega)) rfl) rfl rfl rfl ?_
            refine AO.yld _ (Yld.assign rfl) rfl rfl rfl ?_
            refine AO.nil ?_
            refine AC.seq ?_
            refine AC.draw (by kernel_rfl) (by kernel_rfl) ?_
            refine AO.yld _ (Yld.move rfl) rfl rfl rfl ?_
            refine AO.yld _ (Yld.move rfl) rfl rfl rfl ?_
            refine AO.yld _ (Yld.indexSl Try.underlying55 Try.sizeOf134 rfl rfl hrow rfl) rfl rfl rfl ?_
            refine AO.yld _ (Yld.fieldAddr Try.underlying134 rfl rfl Try.sizeOf2 rfl rfl rfl) rfl rfl rfl ?_
            refine AO.yld _ (Yld.load Try.isAgg2 rfl rfl) rfl rfl rfl ?_
            refine AO.yld _ (Yld.move rfl) rfl rfl rfl ?_
            refine AO.yld _ (Yld.move rfl) rfl rfl rfl ?_
            refine AO.yld _ (Yld.indexSl Try.underlying55 Try.sizeOf134 rfl rfl hrow rfl) rfl rfl rfl ?_
            refine AO.yld _ (Yld.fieldAddr Try.underlying134 rfl rfl Try.sizeOf2 rfl rfl rfl) rfl rfl rfl ?_
            refine AO.yld _ (Yld.load Try.isAgg2 rfl rfl) rfl rfl rfl ?_
            refine AO.yld _ (Yld.sub rfl rfl (by omega) (by omega)) rfl rfl rfl ?_
            refine AO.yld _ (Yld.move rfl) rfl rfl rfl ?_
            refine AO.yld _ (Yld.sub rfl rfl (by omega) (by omega)) rfl rfl rfl ?_
            refine AO.yld _ (Yld.call rfl rfl Try.call121 rfl rfl rfl (spec_l02Abs_c (by omega) (by omega)) rfl) rfl rfl rfl ?_
            refine AO.yld _ (Yld.assign rfl) rfl rfl rfl ?_
            refine AO.nil ?_
            refine AC.seq ?_
            refine AC.region ?_
            refine AO.yld _ (Yld.move rfl) rfl rfl rfl ?_
            refine AO.yld _ (Yld.move rfl) rfl rfl rfl ?_
            refine AO.yld _ (Yld.int rfl rfl rfl) rfl rfl rfl ?_
            refine AO.yld _ (Yld.move rfl) rfl rfl rfl ?_
            refine AO.splitAt 68 _ rfl (fun s68 => ?_) (fun s68 => ?_)
            · -- s68 True
              refine AO.skipF rfl rfl rfl rfl rfl ?_
              refine AO.skipF rfl rfl rfl rfl rfl ?_
              refine AO.skipF rfl rfl rfl rfl rfl ?_
              refine AO.yld _ (Yld.pickT rfl rfl) rfl rfl rfl ?_
              refine AO.nil ?_
              refine AC.condT rfl ?_
              refine AC.region ?_
              refine AO.yld _ (Yld.move rfl) rfl rfl rfl ?_
              refine AO.yld _ (Yld.move rfl) rfl rfl rfl ?_
              refine AO.buildSlice (rows := [[_]]) 1 Try.underlying31 ty2 rfl rfl rfl rfl rfl rfl rfl rfl rfl ?_
              refine AO.append 0 Try.underlying31 ty2 rfl rfl rfl rfl rfl rfl rfl (by simp [pvOne]) (by simp only [List.length_map, List.length_cons, List.length_nil]; omega) (by simp only [List.length_map, List.length_cons, List.length_nil]; omega) rfl ?_
              refine AO.yld _ (Yld.assign rfl) rfl rfl rfl ?_
              refine AO.nil ?_
              refine AC.mark ?_
              refine AC.region ?_
              refine AO.yld _ (Yld.move rfl) rfl rfl rfl ?_
              refine AO.yld _ (Yld.add rfl rfl (by omega) (by omega)) rfl rfl rfl ?_
              refine AO.yld _ (Yld.assign rfl) rfl rfl rfl ?_
              refine AO.nil ?_
              refine AC.back ⟨k + 1, ?_, ?_, ⟨?_, ?_, trivial⟩, ⟨?_, trivial⟩, ⟨rfl, rfl, rfl, rfl, rfl, rfl, trivial⟩, ⟨rfl, trivial⟩⟩
              · exact hk
              · omega
              · rfl
              · rfl
              · first | (rw [idxTo_T hx (by (try simp only [oddB, turnOf, liftOf]); first | (simp_all; done) | grind)]; rw [map_snoc]; rfl) | (rw [idxTo_F hx (by (try simp only [oddB, turnOf, liftOf]); first | (simp_all; done) | grind)]; rfl)
            · -- s68 False
              refine AO.yldG _ (Yld.move rfl) rfl rfl rfl rfl rfl ?_
              refine AO.yldG _ (Yld.move rfl) rfl rfl rfl rfl rfl ?_
              refine AO.yldG _ (Yld.int rfl rfl rfl) rfl rfl rfl rfl rfl ?_
              refine AO.yld _ (Yld.pickF rfl rfl) rfl rfl rfl ?_
              refine AO.nil ?_
              refine AC.cond _ rfl (fun c72 => ?_) (fun c72 => ?_)
              · -- c72 True
                refine AC.region ?_
                refine AO.yld _ (Yld.move rfl) rfl rfl rfl ?_
                refine AO.yld _ (Yld.move rfl) rfl rfl rfl ?_
                refine AO.buildSlice (rows := [[_]]) 1 Try.underlying31 ty2 rfl rfl rfl rfl rfl rfl rfl rfl rfl ?_
                refine AO.append 0 Try.underlying31 ty2 rfl rfl rfl rfl rfl rfl rfl (by simp [pvOne]) (by simp only [List.length_map, List.length_cons, List.length_nil]; omega) (by simp only [List.length_map, List.length_cons, List.length_nil]; omega) rfl ?_
                refine AO.yld _ (Yld.assign rfl) rfl rfl rfl ?_
                refine AO.nil ?_
                refine AC.mark ?_
                refine AC.region ?_
                refine AO.yld _ (Yld.move rfl) rfl rfl rfl ?_
                refine AO.yld _ (Yld.add rfl rfl (by omega) (by omega)) rfl rfl rfl ?_
                refine AO.yld _ (Yld.assign rfl) rfl rfl rfl ?_
                refine AO.nil ?_
                refine AC.back ⟨k + 1, ?_, ?_, ⟨?_, ?_, trivial⟩, ⟨?_, trivial⟩, ⟨rfl, rfl, rfl, rfl, rfl, rfl, trivial⟩, ⟨rfl, trivial⟩⟩
                · exact hk
                · omega
                · rfl
                · rfl
                · first | (rw [idxTo_T hx (by (try simp only [oddB, turnOf, liftOf]); first | (simp_all; done) | grind)]; rw [map_snoc]; rfl) | (rw [idxTo_F hx (by (try simp only [oddB, turnOf, liftOf]); first | (simp_all; done) | grind)]; rfl)
              · -- c72 False
                refine AC.skip ?_
                refine AC.mark ?_
                refine AC.region ?_
                refine AO.yld _ (Yld.move rfl) rfl rfl rfl ?_
                refine AO.yld _ (Yld.add rfl rfl (by omega) (by omega)) rfl rfl rfl ?_
                refine AO.yld _ (Yld.assign rfl) rfl rfl rfl ?_
                refine AO.nil ?_
                refine AC.back ⟨k + 1, ?_, ?_, ⟨?_, ?_, trivial⟩, ⟨?_, trivial⟩, ⟨rfl, rfl, rfl, rfl, rfl, rfl, trivial⟩, ⟨rfl, trivial⟩⟩
                · exact hk
                · omega
                · rfl
                · rfl
                · first | (rw [idxTo_T hx (by (try simp only [oddB, turnOf, liftOf]); first | (simp_all; done) | grind)]; rw [map_snoc]; rfl) | (rw [idxTo_F hx (by (try simp only [oddB, turnOf, liftOf]); first | (simp_all; done) | grind)]; rfl)
          · -- c34 False
            obtain rfl : k = xs.length := by have := ge_of_decM c34; omega
            refine AC.exit rfl ?_
            refine AC.seq ?_
            refine AC.region ?_
            refine AO.yld _ (Yld.move rfl) rfl rfl rfl ?_
            refine AO.yld _ (Yld.assign rfl) rfl rfl rfl ?_
            refine AO.yld _ (Yld.assign rfl) rfl rfl rfl ?_
            refine AO.nil ?_
            refine FnE.ret () [0] [0] Try.results61 (RVs.cons (RV.tmp rfl) (RVs.cons (RV.tmp rfl) RVs.nil)) rfl rfl rfl ?_ ?_ ⟨⟨_, rfl, ?_⟩, trivial⟩
            · -- holds
              trivial
            · -- value
              refine tupE ?_; first | (simp_all [oddMarks, fitT, fitL]; done) | grind [oddMarks, fitT, fitL]
            · -- thing 0
              refine vecE ?_; first | (simp_all [oddMarks, fitT, fitL, idxOn]; done) | grind [oddMarks, fitT, fitL, idxOn]
  · -- s17 False
    refine AO.skipT rfl rfl rfl rfl rfl ?_
    refine AO.skipT rfl rfl rfl rfl rfl ?_
    refine AO.skipT rfl rfl rfl rfl rfl ?_
    refine AO.yld _ (Yld.pickF rfl rfl) rfl rfl rfl ?_
    refine AO.nil ?_
    refine AC.condF rfl ?_
    refine AC.skip ?_
    refine AC.seq ?_
    refine AC.seq ?_
    refine AC.region ?_
    refine AO.yld _ (Yld.move rfl) rfl rfl rfl ?_
    refine AO.yld _ (Yld.int rfl rfl rfl) rfl rfl rfl ?_
    refine AO.nil ?_
    refine AC.cond _ rfl (fun c23 => ?_) (fun c23 => ?_)
    · -- c23 True
      refine AC.seq ?_
      refine AC.region ?_
      refine AO.yld _ (Yld.move rfl) rfl rfl rfl ?_
      refine AO.yld _ (Yld.assign rfl) rfl rfl rfl ?_
      refine AO.yld _ (Yld.assign rfl) rfl rfl rfl ?_
      refine AO.nil ?_
      refine AC.nilVec 4 0 2 1 rfl rfl ?_
      refine FnE.ret () [0] [0] Try.results61 (RVs.cons (RV.tmp rfl) (RVs.cons (RV.tmp rfl) RVs.nil)) rfl rfl rfl ?_ ?_ ⟨⟨_, rfl, ?_⟩, trivial⟩
      · -- holds
        trivial
      · -- value
        refine tupE ?_; first | (simp_all [oddMarks, fitT, fitL]; done) | grind [oddMarks, fitT, fitL]
      · -- thing 0
        refine vecE ?_; first | (simp_all [oddMarks, fitT, fitL, idxOn]; done) | grind [oddMarks, fitT, fitL, idxOn]
    · -- c23 False
      have hk0 : askMarks xs = 0 := by first | (simpa using c23) | (exact absurd c23 (by decide))
      obtain ⟨hall, hl1⟩ := askMarks_ok hk0
      have ht9 : -180000 ≤ (divR (sumTo turnOf xs xs.length) xs.length) ∧ (divR (sumTo turnOf xs xs.length) xs.length) ≤ 180000 := fitT_lim hk0
      have hl9 : -90000 ≤ (divR (sumTo liftOf xs xs.length) xs.length) ∧ (divR (sumTo liftOf xs xs.length) xs.length) ≤ 90000 := fitL_lim hk0
      refine AC.skip ?_
      refine AC.seq ?_
      refine AC.region ?_
      refine AO.yld _ (Yld.move rfl) rfl rfl rfl ?_
      refine AO.yld _ (Yld.call rfl rfl Try.call120 rfl rfl rfl (spec_l28Fit_c hl1 hall) rfl) rfl rfl rfl ?_
      refine AO.yld _ (Yld.move rfl) rfl rfl rfl ?_
      refine AO.yld _ (Yld.extract rfl rfl rfl) rfl rfl rfl ?_
      refine AO.yld _ (Yld.extract rfl rfl rfl) rfl rfl rfl ?_
      refine AO.yld _ (Yld.assign rfl) rfl rfl rfl ?_
      refine AO.yld _ (Yld.assign rfl) rfl rfl rfl ?_
      refine AO.nil ?_
      refine AC.seq ?_
      refine AC.region ?_
      refine AO.buildSlice (rows := []) 0 Try.underlying31 ty2 rfl rfl rfl rfl rfl rfl rfl rfl rfl ?_
      refine AO.yld _ (Yld.assign rfl) rfl rfl rfl ?_
      refine AO.nil ?_
      refine AC.seq ?_
      refine AC.seq ?_
      refine AC.region ?_
      refine AO.yld _ (Yld.assign rfl) rfl rfl rfl ?_
      refine AO.nil ?_
      refine AC.block ?_
      refine AC.loopC [(0, _), (1, _), (4, _), (5, _), (7, _), (8, _)] [(900, _)] (fun (k : Nat) => [(10, .p (.v (.int .i64 (k : Int)))), (9, .h 0)]) (fun (k : Nat) => [(0, .vec 2 1 ((idxTo (oddB (divR (sumTo turnOf xs xs.length) xs.length) (divR (sumTo liftOf xs xs.length) xs.length) lim) xs k).map encI))]) (fun (k : Nat) => k ≤ xs.length) (fun (k : Nat) => xs.length - k) 0 ⟨rfl, rfl, rfl, rfl, rfl, rfl, trivial⟩ ⟨rfl, trivial⟩ ⟨rfl, rfl, trivial⟩ ⟨rfl, trivial⟩ ?_ (fun k hJ => ?_)
      · exact Nat.zero_le _
      · -- round
        refine AC.seq ?_
        refine AC.seq ?_
        refine AC.region ?_
        refine AO.yld _ (Yld.move rfl) rfl rfl rfl ?_
        refine AO.yld _ (Yld.move rfl) rfl rfl rfl ?_
        refine AO.yld _ (Yld.len Try.underlying55 rfl rfl) rfl rfl rfl ?_
        refine AO.yld _ (Yld.int rfl rfl rfl) rfl rfl rfl ?_
        refine AO.nil ?_
        refine AC.cond _ rfl (fun c34 => ?_) (fun c34 => ?_)
        · -- c34 True
          have hk := lt_of_decM c34
          obtain ⟨x, hx⟩ := get_some hk
          have hrow := map_row (enc := encCMark) hx
          have hlm := mark_lim (all_at hall hx)
          have hsg := signed_lim x.found x.az
          have hab := absI_lim (signed x.found x.az - (divR (sumTo turnOf xs xs.length) xs.length))
          have hab2 := absI_lim (x.al - x.height - (divR (sumTo liftOf xs xs.length) xs.length))
          have hil := idxTo_len (p := (oddB (divR (sumTo turnOf xs xs.length) xs.length) (divR (sumTo liftOf xs xs.length) xs.length) lim)) (xs := xs) k
          refine AC.skip ?_
          refine AC.seq ?_
          refine AC.block ?_
          refine AC.seq ?_
          refine AC.draw (by kernel_rfl) (by kernel_rfl) ?_
          refine AO.yld _ (Yld.move rfl) rfl rfl rfl ?_
          refine AO.yld _ (Yld.move rfl) rfl rfl rfl ?_
          refine AO.yld _ (Yld.indexSl Try.underlying55 Try.sizeOf134 rfl rfl hrow rfl) rfl rfl rfl ?_
          refine AO.yld _ (Yld.fieldAddr Try.underlying134 rfl rfl Try.sizeOf2 rfl rfl rfl) rfl rfl rfl ?_
          refine AO.yld _ (Yld.load Try.isAgg2 rfl rfl) rfl rfl rfl ?_
          refine AO.yld _ (Yld.move rfl) rfl rfl rfl ?_
          refine AO.yld _ (Yld.move rfl) rfl rfl rfl ?_
          refine AO.yld _ (Yld.indexSl Try.underlying55 Try.sizeOf134 rfl rfl hrow rfl) rfl rfl rfl ?_
          refine AO.yld _ (Yld.fieldAddr Try.underlying134 rfl rfl Try.sizeOf2 rfl rfl rfl) rfl rfl rfl ?_
          refine AO.yld _ (Yld.load Try.isAgg2 rfl rfl) rfl rfl rfl ?_
          refine AO.yld _ (Yld.call rfl rfl Try.call122 rfl rfl rfl (spec_l02Signed_c (by omega) (by omega) (by omega) (by omega)) rfl) rfl rfl rfl ?_
          refine AO.yld _ (Yld.move rfl) rfl rfl rfl ?_
          refine AO.yld _ (Yld.sub rfl rfl (by omega) (by omega)) rfl rfl rfl ?_
          refine AO.yld _ (Yld.call rfl rfl Try.call121 rfl rfl rfl (spec_l02Abs_c (by omega) (by omega)) rfl) rfl rfl rfl ?_
          refine AO.yld _ (Yld.assign rfl) rfl rfl rfl ?_
          refine AO.nil ?_
          refine AC.seq ?_
          refine AC.draw (by kernel_rfl) (by kernel_rfl) ?_
          refine AO.yld _ (Yld.move rfl) rfl rfl rfl ?_
          refine AO.yld _ (Yld.move rfl) rfl rfl rfl ?_
          refine AO.yld _ (Yld.indexSl Try.underlying55 Try.sizeOf134 rfl rfl hrow rfl) rfl rfl rfl ?_
          refine AO.yld _ (Yld.fieldAddr Try.underlying134 rfl rfl Try.sizeOf2 rfl rfl rfl) rfl rfl rfl ?_
          refine AO.yld _ (Yld.load Try.isAgg2 rfl rfl) rfl rfl rfl ?_
          refine AO.yld _ (Yld.move rfl) rfl rfl rfl ?_
          refine AO.yld _ (Yld.move rfl) rfl rfl rfl ?_
          refine AO.yld _ (Yld.indexSl Try.underlying55 Try.sizeOf134 rfl rfl hrow rfl) rfl rfl rfl ?_
          refine AO.yld _ (Yld.fieldAddr Try.underlying134 rfl rfl Try.sizeOf2 rfl rfl rfl) rfl rfl rfl ?_
          refine AO.yld _ (Yld.load Try.isAgg2 rfl rfl) rfl rfl rfl ?_
          refine AO.yld _ (Yld.sub rfl rfl (by omega) (by omega)) rfl rfl rfl ?_
          refine AO.yld _ (Yld.move rfl) rfl rfl rfl ?_
          refine AO.yld _ (Yld.sub rfl rfl (by omega) (by omega)) rfl rfl rfl ?_
          refine AO.yld _ (Yld.call rfl rfl Try.call121 rfl rfl rfl (spec_l02Abs_c (by omega) (by omega)) rfl) rfl rfl rfl ?_
          refine AO.yld _ (Yld.assign rfl) rfl rfl rfl ?_
          refine AO.nil ?_
          refine AC.seq ?_
          refine AC.region ?_
          refine AO.yld _ (Yld.move rfl) rfl rfl rfl ?_
          refine AO.yld _ (Yld.move rfl) rfl rfl rfl ?_
          refine AO.yld _ (Yld.int rfl rfl rfl) rfl rfl rfl ?_
          refine AO.yld _ (Yld.move rfl) rfl rfl rfl ?_
          refine AO.splitAt 68 _ rfl (fun s68 => ?_) (fun s68 => ?_)
          · -- s68 True
            refine AO.skipF rfl rfl rfl rfl rfl ?_
            refine AO.skipF rfl rfl rfl rfl rfl ?_
            refine AO.skipF rfl rfl rfl rfl rfl ?_
            refine AO.yld _ (Yld.pickT rfl rfl) rfl rfl rfl ?_
            refine AO.nil ?_
            refine AC.condT rfl ?_
            refine AC.region ?_
            refine AO.yld _ (Yld.move rfl) rfl rfl rfl ?_
            refine AO.yld _ (Yld.move rfl) rfl rfl rfl ?_
            refine AO.buildSlice (rows := [[_]]) 1 Try.underlying31 ty2 rfl rfl rfl rfl rfl rfl rfl rfl rfl ?_
            refine AO.append 0 Try.underlying31 ty2 rfl rfl rfl rfl rfl rfl rfl (by simp [pvOne]) (by simp only [List.length_map, List.length_cons, List.length_nil]; omega) (by simp only [List.length_map, List.length_cons, List.length_nil]; omega) rfl ?_
            refine AO.yld _ (Yld.assign rfl) rfl rfl rfl ?_
            refine AO.nil ?_
            refine AC.mark ?_
            refine AC.region ?_
            refine AO.yld _ (Yld.move rfl) rfl rfl rfl ?_
            refine AO.yld _ (Yld.add rfl rfl (by omega) (by omega)) rfl rfl rfl ?_
            refine AO.yld _ (Yld.assign rfl) rfl rfl rfl ?_
            refine AO.nil ?_
            refine AC.back ⟨k + 1, ?_, ?_, ⟨?_, ?_, trivial⟩, ⟨?_, trivial⟩, ⟨rfl, rfl, rfl, rfl, rfl, rfl, trivial⟩, ⟨rfl, trivial⟩⟩
            · exact hk
            · omega
            · rfl
            · rfl
            · first | (rw [idxTo_T hx (by (try simp only [oddB, turnOf, liftOf]); first | (simp_all; done) | grind)]; rw [map_snoc]; rfl) | (rw [idxTo_F hx (by (try simp only [oddB, turnOf, liftOf]); first | (simp_all; done) | grind)]; rfl)
          · -- s68 False
            refine AO.yldG _ (Yld.move rfl) rfl rfl rfl rfl rfl ?_
            refine AO.yldG _ (Yld.move rfl) rfl rfl rfl rfl rfl ?_
            refine AO.yldG _ (Yld.int rfl rfl rfl) rfl rfl rfl rfl rfl ?_
            refine AO.yld _ (Yld.pickF rfl rfl) rfl rfl rfl ?_
            refine AO.nil ?_
            refine AC.cond _ rfl (fun c72 => ?_) (fun c72 => ?_)
            · -- c72 True
              refine AC.region ?_
              refine AO.yld _ (Yld.move rfl) rfl rfl rfl ?_
              refine AO.yld _ (Yld.move rfl) rfl rfl rfl ?_
              refine AO.buildSlice (rows := [[_]]) 1 Try.underlying31 ty2 rfl rfl rfl rfl rfl rfl rfl rfl rfl ?_
              refine AO.append 0 Try.underlying31 ty2 rfl rfl rfl rfl rfl rfl rfl (by simp [pvOne]) (by simp only [List.length_map, List.length_cons, List.length_nil]; omega) (by simp only [List.length_map, List.length_cons, List.length_nil]; omega) rfl ?_
              refine AO.yld _ (Yld.assign rfl) rfl rfl rfl ?_
              refine AO.nil ?_
              refine AC.mark ?_
              refine AC.region ?_
              refine AO.yld _ (Yld.move rfl) rfl rfl rfl ?_
              refine AO.yld _ (Yld.add rfl rfl (by omega) (by omega)) rfl rfl rfl ?_
              refine AO.yld _ (Yld.assign rfl) rfl rfl rfl ?_
              refine AO.nil ?_
              refine AC.back ⟨k + 1, ?_, ?_, ⟨?_, ?_, trivial⟩, ⟨?_, trivial⟩, ⟨rfl, rfl, rfl, rfl, rfl, rfl, trivial⟩, ⟨rfl, trivial⟩⟩
              · exact hk
              · omega
              · rfl
              · rfl
              · first | (rw [idxTo_T hx (by (try simp only [oddB, turnOf, liftOf]); first | (simp_all; done) | grind)]; rw [map_snoc]; rfl) | (rw [idxTo_F hx (by (try simp only [oddB, turnOf, liftOf]); first | (simp_all; done) | grind)]; rfl)
            · -- c72 False
              refine AC.skip ?_
              refine AC.mark ?_
              refine AC.region ?_
              refine AO.yld _ (Yld.move rfl) rfl rfl rfl ?_
              refine AO.yld _ (Yld.add rfl rfl (by omega) (by omega)) rfl rfl rfl ?_
              refine AO.yld _ (Yld.assign rfl) rfl rfl rfl ?_
              refine AO.nil ?_
              refine AC.back ⟨k + 1, ?_, ?_, ⟨?_, ?_, trivial⟩, ⟨?_, trivial⟩, ⟨rfl, rfl, rfl, rfl, rfl, rfl, trivial⟩, ⟨rfl, trivial⟩⟩
              · exact hk
              · omega
              · rfl
              · rfl
              · first | (rw [idxTo_T hx (by (try simp only [oddB, turnOf, liftOf]); first | (simp_all; done) | grind)]; rw [map_snoc]; rfl) | (rw [idxTo_F hx (by (try simp only [oddB, turnOf, liftOf]); first | (simp_all; done) | grind)]; rfl)
        · -- c34 False
          obtain rfl : k = xs.length := by have := ge_of_decM c34; omega
          refine AC.exit rfl ?_
          refine AC.seq ?_
          refine AC.region ?_
          refine AO.yld _ (Yld.move rfl) rfl rfl rfl ?_
          refine AO.yld _ (Yld.assign rfl) rfl rfl rfl ?_
          refine AO.yld _ (Yld.assign rfl) rfl rfl rfl ?_
          refine AO.nil ?_
          refine FnE.ret () [0] [0] Try.results61 (RVs.cons (RV.tmp rfl) (RVs.cons (RV.tmp rfl) RVs.nil)) rfl rfl rfl ?_ ?_ ⟨⟨_, rfl, ?_⟩, trivial⟩
          · -- holds
            trivial
          · -- value
            refine tupE ?_; first | (simp_all [oddMarks, fitT, fitL]; done) | grind [oddMarks, fitT, fitL]
          · -- thing 0
            refine vecE ?_; first | (simp_all [oddMarks, fitT, fitL, idxOn]; done) | grind [oddMarks, fitT, fitL, idxOn]

theorem impl_OddMarks_c {xs : List CMark} {lim : Int} (hn : xs.length ≤ 1048576) (hw : ∀ x ∈ xs, i64b x.az ∧ i64b x.al ∧ i64b x.found ∧ i64b x.height) :
    FnE (α := Unit) Try.prog 62 [.p (.sl 4 (xs.map encCMark)), .p (.v (.int .i64 lim))] [] [] (fun _ => True) (fun _ => .tup [.h 0, .p (.v (.int .i64 (oddMarks xs lim).2))]) (fun _ => [(0, .vec 2 1 ((oddMarks xs lim).1.map encI))]) := by
  refine FnE.intro Try.func62 rfl Try.ntmps62 rfl rfl (fun w0 F0 η φ w => ?_)
  refine AC.seq ?_
  refine AC.region ?_
  refine AO.yld _ (Yld.assign rfl) rfl rfl rfl ?_
  refine AO.yld _ (Yld.assign rfl) rfl rfl rfl ?_
  refine AO.nil ?_
  refine AC.seq ?_
  refine AC.seq ?_
  refine AC.region ?_
  refine AO.yld _ (Yld.move rfl) rfl rfl rfl ?_
  refine AO.yld _ (Yld.call rfl rfl Try.call97 rfl rfl rfl (impl_checkMarks_c (by first | assumption | omega) (by assumption)) rfl) rfl rfl rfl ?_
  refine AO.yld _ (Yld.assign rfl) rfl rfl rfl ?_
  refine AO.nil ?_
  refine AC.seq ?_
  refine AC.region ?_
  refine AO.yld _ (Yld.move rfl) rfl rfl rfl ?_
  refine AO.yld _ (Yld.int rfl rfl rfl) rfl rfl rfl ?_
  refine AO.nil ?_
  refine AC.cond _ rfl (fun c15 => ?_) (fun c15 => ?_)
  · -- c15 True
    refine AC.seq ?_
    refine AC.region ?_
    refine AO.yld _ (Yld.move rfl) rfl rfl rfl ?_
    refine AO.yld _ (Yld.assign rfl) rfl rfl rfl ?_
    refine AO.yld _ (Yld.assign rfl) rfl rfl rfl ?_
    refine AO.nil ?_
    refine AC.nilVec 4 0 2 1 rfl rfl ?_
    refine FnE.ret () [0] [0] Try.results62 (RVs.cons (RV.tmp rfl) (RVs.cons (RV.tmp rfl) RVs.nil)) rfl rfl rfl ?_ ?_ ⟨⟨_, rfl, ?_⟩, trivial⟩
    · -- holds
      trivial
    · -- value
      refine tupE ?_; first | (simp_all [oddMarks, fitT, fitL]; done) | grind [oddMarks, fitT, fitL]
    · -- thing 0
      refine vecE ?_; first | (simp_all [oddMarks, fitT, fitL, idxOn]; done) | grind [oddMarks, fitT, fitL, idxOn]
  · -- c15 False
    have hk0 : askMarks xs = 0 := by first | (simpa using c15) | (exact absurd c15 (by decide))
    obtain ⟨hall, hl1⟩ := askMarks_ok hk0
    have ht9 : -180000 ≤ (divR (sumTo turnOf xs xs.length) xs.length) ∧ (divR (sumTo turnOf xs xs.length) xs.length) ≤ 180000 := fitT_lim hk0
    have hl9 : -90000 ≤ (divR (sumTo liftOf xs xs.length) xs.length) ∧ (divR (sumTo liftOf xs xs.length) xs.length) ≤ 90000 := fitL_lim hk0
    refine AC.skip ?_
    refine AC.seq ?_
    refine AC.seq ?_
    refine AC.region ?_
    refine AO.yld _ (Yld.move rfl) rfl rfl rfl ?_
    refine AO.yld _ (Yld.call rfl rfl Try.call70 rfl rfl rfl (impl_within_c) rfl) rfl rfl rfl ?_
    refine AO.yld _ (Yld.not rfl) rfl rfl rfl ?_
    refine AO.nil ?_
    refine AC.cond _ rfl (fun c19 => ?_) (fun c19 => ?_)
    · -- c19 True
      refine AC.seq ?_
      refine AC.region ?_
      refine AO.yld _ (Yld.assign rfl) rfl rfl rfl ?_
      refine AO.yld _ (Yld.assign rfl) rfl rfl rfl ?_
      refine AO.nil ?_
      refine AC.nilVec 4 0 2 1 rfl rfl ?_
      refine FnE.ret () [0] [0] Try.results62 (RVs.cons (RV.tmp rfl) (RVs.cons (RV.tmp rfl) RVs.nil)) rfl rfl rfl ?_ ?_ ⟨⟨_, rfl, ?_⟩, trivial⟩
      · -- holds
        trivial
      · -- value
        refine tupE ?_; first | (simp_all [oddMarks, fitT, fitL]; done) | grind [oddMarks, fitT, fitL]
      · -- thing 0
        refine vecE ?_; first | (simp_all [oddMarks, fitT, fitL, idxOn]; done) | grind [oddMarks, fitT, fitL, idxOn]
    · -- c19 False
      refine AC.skip ?_
      refine AC.seq ?_
      refine AC.region ?_
      refine AO.yld _ (Yld.move rfl) rfl rfl rfl ?_
      refine AO.yld _ (Yld.call rfl rfl Try.call123 rfl rfl rfl (impl_fitMarks_c hl1 hall) rfl) rfl rfl rfl ?_
      refine AO.yld _ (Yld.move rfl) rfl rfl rfl ?_
      refine AO.yld _ (Yld.extract rfl rfl rfl) rfl rfl rfl ?_
      refine AO.yld _ (Yld.extract rfl rfl rfl) rfl rfl rfl ?_
      refine AO.yld _ (Yld.assign rfl) rfl rfl rfl ?_
      refine AO.yld _ (Yld.assign rfl) rfl rfl rfl ?_
      refine AO.nil ?_
      refine AC.seq ?_
      refine AC.region ?_
      refine AO.yld _ (Yld.assign rfl) rfl rfl rfl ?_
      refine AO.nil ?_
      refine AC.seq ?_
      refine AC.seq ?_
      refine AC.region ?_
      refine AO.yld _ (Yld.move rfl) rfl rfl rfl ?_
      refine AO.yld _ (Yld.len Try.underlying55 rfl rfl) rfl rfl rfl ?_
      refine AO.yld _ (Yld.move rfl) rfl rfl rfl ?_
      refine AO.nil ?_
      refine AC.block ?_
      refine AC.nilVec 9 0 2 1 rfl rfl ?_
      refine AC.loopC [(1, _), (4, _), (5, _), (7, _), (8, _), (25, _), (26, _)] [(900, _)] (fun (k : Nat) => [(27, .p (.v (.int .i64 (k : Int)))), (9, .h 0)]) (fun (k : Nat) => [(0, .vec 2 1 ((idxTo (oddB (divR (sumTo turnOf xs xs.length) xs.length) (divR (sumTo liftOf xs xs.length) xs.length) lim) xs k).map encI))]) (fun (k : Nat) => k ≤ xs.length) (fun (k : Nat) => xs.length - k) 0 ⟨rfl, rfl, rfl, rfl, rfl, rfl, rfl, trivial⟩ ⟨rfl, trivial⟩ ⟨rfl, rfl, trivial⟩ ⟨rfl, trivial⟩ ?_ (fun k hJ => ?_)
      · exact Nat.zero_le _
      · -- round
        refine AC.seq ?_
        refine AC.region ?_
        refine AO.yld _ (Yld.int rfl rfl rfl) rfl rfl rfl ?_
        refine AO.nil ?_
        refine AC.seq ?_
        refine AC.cond _ rfl (fun c28 => ?_) (fun c28 => ?_)
        · -- c28 True
          have hk := lt_of_decM c28
          obtain ⟨x, hx⟩ := get_some hk
          have hrow := map_row (enc := encCMark) hx
          have hlm := mark_lim (all_at hall hx)
          have hsg := signed_lim x.found x.az
          have hab := absI_lim (signed x.found x.az - (divR (sumTo turnOf xs xs.length) xs.length))
          have hab2 := absI_lim (x.al - x.height - (divR (sumTo liftOf xs xs.length) xs.length))
          have hil := idxTo_len (p := (oddB (divR (sumTo turnOf xs xs.length) xs.length) (divR (sumTo liftOf xs xs.length) xs.length) lim)) (xs := xs) k
          refine AC.skip ?_
          refine AC.seq ?_
          refine AC.block ?_
          refine AC.seq ?_
          refine AC.region ?_
          refine AO.yld _ (Yld.move rfl) rfl rfl rfl ?_
          refine AO.yld _ (Yld.indexSl Try.underlying55 Try.sizeOf134 rfl rfl hrow rfl) rfl rfl rfl ?_
          refine AO.yld _ (Yld.loadAgg Try.isAgg134 Try.sizeOf134 rfl rfl rfl rfl) rfl rfl rfl ?_
          refine AO.alloc 1 Try.zeroValue134 rfl rfl rfl ?_
          refine AO.yld _ (Yld.assign rfl) rfl rfl rfl ?_
          refine AO.store Try.sizeOf134 rfl rfl rfl rfl rfl rfl ?_
          refine AO.nil ?_
          refine AC.seq ?_
          refine AC.region ?_
          refine AO.yld _ (Yld.fieldAddr Try.underlying134 rfl rfl Try.sizeOf2 rfl rfl rfl) rfl rfl rfl ?_
          refine AO.yld _ (Yld.load Try.isAgg2 rfl rfl) rfl rfl rfl ?_
          refine AO.yld _ (Yld.fieldAddr Try.underlying134 rfl rfl Try.sizeOf2 rfl rfl rfl) rfl rfl rfl ?_
          refine AO.yld _ (Yld.load Try.isAgg2 rfl rfl) rfl rfl rfl ?_
          refine AO.yld _ (Yld.call rfl rfl Try.call125 rfl rfl rfl (impl_SignedBetween_c (by omega) (by omega) (by omega) (by omega)) rfl) rfl rfl rfl ?_
          refine AO.yld _ (Yld.move rfl) rfl rfl rfl ?_
          refine AO.yld _ (Yld.sub rfl rfl (by omega) (by omega)) rfl rfl rfl ?_
          refine AO.yld _ (Yld.call rfl rfl Try.call124 rfl rfl rfl (impl_absOf_c (by omega) (by omega)) rfl) rfl rfl rfl ?_
          refine AO.yld _ (Yld.move rfl) rfl rfl rfl ?_
          refine AO.yld _ (Yld.int rfl rfl rfl) rfl rfl rfl ?_
          refine AO.yld _ (Yld.move rfl) rfl rfl rfl ?_
          refine AO.splitAt 42 _ rfl (fun s42 => ?_) (fun s42 => ?_)
          · -- s42 True
            refine AO.skipF rfl rfl rfl rfl rfl ?_
            refine AO.skipF rfl rfl rfl rfl rfl ?_
            refine AO.skipF rfl rfl rfl rfl rfl ?_
            refine AO.skipF rfl rfl rfl rfl rfl ?_
            refine AO.skipF rfl rfl rfl rfl rfl ?_
            refine AO.skipF rfl rfl rfl rfl rfl ?_
            refine AO.skipF rfl rfl rfl rfl rfl ?_
            refine AO.skipF rfl rfl rfl rfl rfl ?_
            refine AO.skipF rfl rfl rfl rfl rfl ?_
            refine AO.skipF rfl rfl rfl rfl rfl ?_
            refine AO.yld _ (Yld.pickT rfl rfl) rfl rfl rfl ?_
            refine AO.nil ?_
            refine AC.condT rfl ?_
            refine AC.region ?_
            refine AO.yld _ (Yld.move rfl) rfl rfl rfl ?_
            refine AO.yld _ (Yld.move rfl) rfl rfl rfl ?_
            refine AO.buildSlice (rows := [[_]]) 2 Try.underlying31 ty2 rfl rfl rfl rfl rfl rfl rfl rfl rfl ?_
            refine AO.append 0 Try.underlying31 ty2 rfl rfl rfl rfl rfl rfl rfl (by simp [pvOne]) (by simp only [List.length_map, List.length_cons, List.length_nil]; omega) (by simp only [List.length_map, List.length_cons, List.length_nil]; omega) rfl ?_
            refine AO.yld _ (Yld.assign rfl) rfl rfl rfl ?_
            refine AO.nil ?_
            refine AC.mark ?_
            refine AC.region ?_
            refine AO.yld _ (Yld.add rfl rfl (by omega) (by omega)) rfl rfl rfl ?_
            refine AO.yld _ (Yld.move rfl) rfl rfl rfl ?_
            refine AO.nil ?_
            refine AC.back ⟨k + 1, ?_, ?_, ⟨?_, ?_, trivial⟩, ⟨?_, trivial⟩, ⟨rfl, rfl, rfl, rfl, rfl, rfl, rfl, trivial⟩, ⟨rfl, trivial⟩⟩
            · exact hk
            · omega
            · rfl
            · rfl
            · first | (rw [idxTo_T hx (by (try simp only [oddB, turnOf, liftOf]); first | (simp_all; done) | grind)]; rw [map_snoc]; rfl) | (rw [idxTo_F hx (by (try simp only [oddB, turnOf, liftOf]); first | (simp_all; done) | grind)]; rfl)
          · -- s42 False
            refine AO.yldG _ (Yld.fieldAddr Try.underlying134 rfl rfl Try.sizeOf2 rfl rfl rfl) rfl rfl rfl rfl rfl ?_
            refine AO.yldG _ (Yld.load Try.isAgg2 rfl rfl) rfl rfl rfl rfl rfl ?_
            refine AO.yldG _ (Yld.fieldAddr Try.underlying134 rfl rfl Try.sizeOf2 rfl rfl rfl) rfl rfl rfl rfl rfl ?_
            refine AO.yldG _ (Yld.load Try.isAgg2 rfl rfl) rfl rfl rfl rfl rfl ?_
            refine AO.yldG _ (Yld.sub rfl rfl (by omega) (by omega)) rfl rfl rfl rfl rfl ?_
            refine AO.yldG _ (Yld.move rfl) rfl rfl rfl rfl rfl ?_
            refine AO.yldG _ (Yld.sub rfl rfl (by omega) (by omega)) rfl rfl rfl rfl rfl ?_
            refine AO.yldG _ (Yld.call rfl rfl Try.call124 rfl rfl rfl (impl_absOf_c (by omega) (by omega)) rfl) rfl rfl rfl rfl rfl ?_
            refine AO.yldG _ (Yld.move rfl) rfl rfl rfl rfl rfl ?_
            refine AO.yldG _ (Yld.int rfl rfl rfl) rfl rfl rfl rfl rfl ?_
            refine AO.yld _ (Yld.pickF rfl rfl) rfl rfl rfl ?_
            refine AO.nil ?_
            refine AC.cond _ rfl (fun c53 => ?_) (fun c53 => ?_)
            · -- c53 True
              refine AC.region ?_
              refine AO.yld _ (Yld.move rfl) rfl rfl rfl ?_
              refine AO.yld _ (Yld.move rfl) rfl rfl rfl ?_
              refine AO.buildSlice (rows := [[_]]) 2 Try.underlying31 ty2 rfl rfl rfl rfl rfl rfl rfl rfl rfl ?_
              refine AO.append 0 Try.underlying31 ty2 rfl rfl rfl rfl rfl rfl rfl (by simp [pvOne]) (by simp only [List.length_map, List.length_cons, List.length_nil]; omega) (by simp only [List.length_map, List.length_cons, List.length_nil]; omega) rfl ?_
              refine AO.yld _ (Yld.assign rfl) rfl rfl rfl ?_
              refine AO.nil ?_
              refine AC.mark ?_
              refine AC.region ?_
              refine AO.yld _ (Yld.add rfl rfl (by omega) (by omega)) rfl rfl rfl ?_
              refine AO.yld _ (Yld.move rfl) rfl rfl rfl ?_
              refine AO.nil ?_
              refine AC.back ⟨k + 1, ?_, ?_, ⟨?_, ?_, trivial⟩, ⟨?_, trivial⟩, ⟨rfl, rfl, rfl, rfl, rfl, rfl, rfl, trivial⟩, ⟨rfl, trivial⟩⟩
              · exact hk
              · omega
              · rfl
              · rfl
              · first | (rw [idxTo_T hx (by (try simp only [oddB, turnOf, liftOf]); first | (simp_all; done) | grind)]; rw [map_snoc]; rfl) | (rw [idxTo_F hx (by (try simp only [oddB, turnOf, liftOf]); first | (simp_all; done) | grind)]; rfl)
            · -- c53 False
              refine AC.skip ?_
              refine AC.mark ?_
              refine AC.region ?_
              refine AO.yld _ (Yld.add rfl rfl (by omega) (by omega)) rfl rfl rfl ?_
              refine AO.yld _ (Yld.move rfl) rfl rfl rfl ?_
              refine AO.nil ?_
              refine AC.back ⟨k + 1, ?_, ?_, ⟨?_, ?_, trivial⟩, ⟨?_, trivial⟩, ⟨rfl, rfl, rfl, rfl, rfl, rfl, rfl, trivial⟩, ⟨rfl, trivial⟩⟩
              · exact hk
              · omega
              · rfl
              · rfl
              · first | (rw [idxTo_T hx (by (try simp only [oddB, turnOf, liftOf]); first | (simp_all; done) | grind)]; rw [map_snoc]; rfl) | (rw [idxTo_F hx (by (try simp only [oddB, turnOf, liftOf]); first | (simp_all; done) | grind)]; rfl)
        · -- c28 False
          obtain rfl : k = xs.length := by have := ge_of_decM c28; omega
          refine AC.exit rfl ?_
          refine AC.seq ?_
          refine AC.region ?_
          refine AO.yld _ (Yld.move rfl) rfl rfl rfl ?_
          refine AO.yld _ (Yld.assign rfl) rfl rfl rfl ?_
          refine AO.yld _ (Yld.assign rfl) rfl rfl rfl ?_
          refine AO.nil ?_
          refine FnE.ret () [0] [0] Try.results62 (RVs.cons (RV.tmp rfl) (RVs.cons (RV.tmp rfl) RVs.nil)) rfl rfl rfl ?_ ?_ ⟨⟨_, rfl, ?_⟩, trivial⟩
          · -- holds
            trivial
          · -- value
            refine tupE ?_; first | (simp_all [oddMarks, fitT, fitL]; done) | grind [oddMarks, fitT, fitL]
          · -- thing 0
            refine vecE ?_; first | (simp_all [oddMarks, fitT, fitL, idxOn]; done) | grind [oddMarks, fitT, fitL, idxOn]

end Go.Proofs.Ytaanabofedickaa
