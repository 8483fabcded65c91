/- Contracts of functions of the program, each by a walk of its text in the calculus V. -/
import Derived.Test.YtaanabofedickaaR2B
import Derived.Test.YtaanabofedickaaD8
set_option linter.all false
set_option linter.unusedSimpArgs false
set_option linter.unnecessarySimpa false
set_option linter.unusedVariables false
namespace Go.Proofs.Ytaanabofedickaa
open Go Go.V

theorem spec_l26In_c {x : Mach} {b : Int} (h : okMachine x = true) :
    Pure Try.prog 116 [.ptr (encMach x), .v (.int .i64 b)] (.v (.bool (liesB x b))) := by
  have hl := mach_lim h
  refine Pure.intro Try.func116 rfl Try.ntmps116 rfl rfl (fun w => ?_)
  refine AC.seq ?_
  refine AC.region ?_
  refine AO.yld _ (Yld.assign rfl) rfl rfl rfl ?_
  refine AO.nil ?_
  refine AC.seq ?_
  refine AC.draw (by kernel_rfl) (by kernel_rfl) ?_
  refine AO.yld _ (Yld.move rfl) rfl rfl rfl ?_
  refine AO.yld _ (Yld.move rfl) rfl rfl rfl ?_
  refine AO.yld _ (Yld.nilCheck rfl rfl) rfl rfl rfl ?_
  refine AO.yld _ (Yld.fieldAddr Try.underlying110 rfl rfl Try.sizeOf2 rfl rfl rfl) rfl rfl rfl ?_
  refine AO.yld _ (Yld.load Try.isAgg2 rfl rfl) rfl rfl rfl ?_
  refine AO.yld _ (Yld.move rfl) rfl rfl rfl ?_
  refine AO.yld _ (Yld.nilCheck rfl rfl) rfl rfl rfl ?_
  refine AO.yld _ (Yld.fieldAddr Try.underlying110 rfl rfl Try.sizeOf2 rfl rfl rfl) rfl rfl rfl ?_
  refine AO.yld _ (Yld.load Try.isAgg2 rfl rfl) rfl rfl rfl ?_
  refine AO.yld _ (Yld.sub rfl rfl (by omega) (by omega)) rfl rfl rfl ?_
  refine AO.yld _ (Yld.move rfl) rfl rfl rfl ?_
  refine AO.yld _ (Yld.nilCheck rfl rfl) rfl rfl rfl ?_
  refine AO.yld _ (Yld.fieldAddr Try.underlying110 rfl rfl Try.sizeOf2 rfl rfl rfl) rfl rfl rfl ?_
  refine AO.yld _ (Yld.load Try.isAgg2 rfl rfl) rfl rfl rfl ?_
  refine AO.yld _ (Yld.move rfl) rfl rfl rfl ?_
  refine AO.yld _ (Yld.nilCheck rfl rfl) rfl rfl rfl ?_
  refine AO.yld _ (Yld.fieldAddr Try.underlying110 rfl rfl Try.sizeOf2 rfl rfl rfl) rfl rfl rfl ?_
  refine AO.yld _ (Yld.load Try.isAgg2 rfl rfl) rfl rfl rfl ?_
  refine AO.yld _ (Yld.add rfl rfl (by omega) (by omega)) rfl rfl rfl ?_
  refine AO.yld _ (Yld.call rfl rfl Try.call119 rfl rfl rfl (spec_l00In_c) rfl) rfl rfl rfl ?_
  refine AO.yld _ (Yld.assign rfl) rfl rfl rfl ?_
  refine AO.nil ?_
  refine Pure.ret Try.results116 (RVs.cons (RV.tmp rfl) RVs.nil) rfl ?_
  rfl

theorem impl_liesIn_c {x : Mach} {b : Int} (h : okMachine x = true) :
    Pure Try.prog 118 [.agg (encMach x), .v (.int .i64 b)] (.v (.bool (liesB x b))) := by
  have hl := mach_lim h
  refine Pure.intro Try.func118 rfl Try.ntmps118 rfl rfl (fun w => ?_)
  refine AC.seq ?_
  refine AC.region ?_
  refine AO.box 0 rfl rfl rfl rfl rfl ?_
  refine AO.yld _ (Yld.assign rfl) rfl rfl rfl ?_
  refine AO.nil ?_
  refine AC.seq ?_
  refine AC.region ?_
  refine AO.yld _ (Yld.move rfl) rfl rfl rfl ?_
  refine AO.yld _ (Yld.fieldAddr Try.underlying110 rfl rfl Try.sizeOf2 rfl rfl rfl) rfl rfl rfl ?_
  refine AO.yld _ (Yld.load Try.isAgg2 rfl rfl) rfl rfl rfl ?_
  refine AO.yld _ (Yld.fieldAddr Try.underlying110 rfl rfl Try.sizeOf2 rfl rfl rfl) rfl rfl rfl ?_
  refine AO.yld _ (Yld.load Try.isAgg2 rfl rfl) rfl rfl rfl ?_
  refine AO.yld _ (Yld.sub rfl rfl (by omega) (by omega)) rfl rfl rfl ?_
  refine AO.yld _ (Yld.fieldAddr Try.underlying110 rfl rfl Try.sizeOf2 rfl rfl rfl) rfl rfl rfl ?_
  refine AO.yld _ (Yld.load Try.isAgg2 rfl rfl) rfl rfl rfl ?_
  refine AO.yld _ (Yld.fieldAddr Try.underlying110 rfl rfl Try.sizeOf2 rfl rfl rfl) rfl rfl rfl ?_
  refine AO.yld _ (Yld.load Try.isAgg2 rfl rfl) rfl rfl rfl ?_
  refine AO.yld _ (Yld.add rfl rfl (by omega) (by omega)) rfl rfl rfl ?_
  refine AO.yld _ (Yld.call rfl rfl Try.call70 rfl rfl rfl (impl_within_c) rfl) rfl rfl rfl ?_
  refine AO.yld _ (Yld.assign rfl) rfl rfl rfl ?_
  refine AO.nil ?_
  refine Pure.ret Try.results118 (RVs.cons (RV.tmp rfl) RVs.nil) rfl ?_
  rfl

theorem spec_l26Agree_c {xs : List Mach} (hn : xs.length ≤ 1048576) (hok : okMachines xs = true) :
    Pure Try.prog 115 [.sl 3 (xs.map encMach)] (.tup [.v (.int .i64 (bestB xs xs.length).1), .v (.int .i64 (untilB xs xs.length)), .v (.int .i64 (bestB xs xs.length).2)]) := by
  refine Pure.intro Try.func115 rfl Try.ntmps115 rfl rfl (fun w => ?_)
  refine AC.seq ?_
  refine AC.region ?_
  refine AO.yld _ (Yld.assign rfl) rfl rfl rfl ?_
  refine AO.yld _ (Yld.assign rfl) rfl rfl rfl ?_
  refine AO.yld _ (Yld.assign rfl) rfl rfl rfl ?_
  refine AO.nil ?_
  refine AC.seq ?_
  refine AC.region ?_
  refine AO.yld _ (Yld.assign rfl) rfl rfl rfl ?_
  refine AO.nil ?_
  refine AC.seq ?_
  refine AC.region ?_
  refine AO.yld _ (Yld.assign rfl) rfl rfl rfl ?_
  refine AO.nil ?_
  refine AC.seq ?_
  refine AC.region ?_
  refine AO.yld _ (Yld.assign rfl) rfl rfl rfl ?_
  refine AO.nil ?_
  refine AC.seq ?_
  refine AC.seq ?_
  refine AC.region ?_
  refine AO.yld _ (Yld.assign rfl) rfl rfl rfl ?_
  refine AO.nil ?_
  refine AC.block ?_
  refine AC.loopC [(0, _), (2, _), (3, _), (4, _)] [] (fun (k : Nat) => [(8, .p (.v (.int .i64 (k : Int)))), (5, .p (.v (.int .i64 (bestB xs k).1))), (6, .p (.v (.int .i64 (untilB xs k)))), (7, .p (.v (.int .i64 (bestB xs k).2)))]) (fun (k : Nat) => []) (fun (k : Nat) => k ≤ xs.length) (fun (k : Nat) => xs.length - k) 0 ⟨rfl, rfl, rfl, rfl, trivial⟩ trivial ⟨rfl, rfl, rfl, rfl, trivial⟩ trivial ?_ (fun k hJ => ?_)
  · exact Nat.zero_le _
  · -- round
    refine AC.seq ?_
    refine AC.seq ?_
    refine AC.region ?_
    refine AO.yld _ (Yld.move rfl) rfl rfl rfl ?_
    refine AO.yld _ (Yld.move rfl) rfl rfl rfl ?_
    refine AO.yld _ (Yld.len Try.underlying34 rfl rfl) rfl rfl rfl ?_
    refine AO.yld _ (Yld.int rfl rfl rfl) rfl rfl rfl ?_
    refine AO.nil ?_
    refine AC.cond _ rfl (fun c16 => ?_) (fun c16 => ?_)
    · -- c16 True
      have hk := lt_of_decM c16
      obtain ⟨x, hx⟩ := get_some hk
      have hrow := map_row (enc := encMach) hx
      have hox := machines_at hok hx
      have hlx := mach_lim hox
      have hbx : beginOf x = x.offset - x.delay := rfl
      have hlb := bestB_lim hok k
      refine AC.skip ?_
      refine AC.seq ?_
      refine AC.block ?_
      refine AC.seq ?_
      refine AC.draw (by kernel_rfl) (by kernel_rfl) ?_
      refine AO.yld _ (Yld.move rfl) rfl rfl rfl ?_
      refine AO.yld _ (Yld.move rfl) rfl rfl rfl ?_
      refine AO.yld _ (Yld.indexSl Try.underlying34 Try.sizeOf110 rfl rfl hrow rfl) rfl rfl rfl ?_
      refine AO.yld _ (Yld.fieldAddr Try.underlying110 rfl rfl Try.sizeOf2 rfl rfl rfl) rfl rfl rfl ?_
      refine AO.yld _ (Yld.load Try.isAgg2 rfl rfl) rfl rfl rfl ?_
      refine AO.yld _ (Yld.move rfl) rfl rfl rfl ?_
      refine AO.yld _ (Yld.move rfl) rfl rfl rfl ?_
      refine AO.yld _ (Yld.indexSl Try.underlying34 Try.sizeOf110 rfl rfl hrow rfl) rfl rfl rfl ?_
      refine AO.yld _ (Yld.fieldAddr Try.underlying110 rfl rfl Try.sizeOf2 rfl rfl rfl) rfl rfl rfl ?_
      refine AO.yld _ (Yld.load Try.isAgg2 rfl rfl) rfl rfl rfl ?_
      refine AO.yld _ (Yld.sub rfl rfl (by omega) (by omega)) rfl rfl rfl ?_
      refine AO.yld _ (Yld.assign rfl) rfl rfl rfl ?_
      refine AO.nil ?_
      refine AC.seq ?_
      refine AC.draw (by kernel_rfl) (by kernel_rfl) ?_
      refine AO.yld _ (Yld.move rfl) rfl rfl rfl ?_
      refine AO.yld _ (Yld.move rfl) rfl rfl rfl ?_
      refine AO.yld _ (Yld.indexSl Try.underlying34 Try.sizeOf110 rfl rfl hrow rfl) rfl rfl rfl ?_
      refine AO.yld _ (Yld.fieldAddr Try.underlying110 rfl rfl Try.sizeOf2 rfl rfl rfl) rfl rfl rfl ?_
      refine AO.yld _ (Yld.load Try.isAgg2 rfl rfl) rfl rfl rfl ?_
      refine AO.yld _ (Yld.move rfl) rfl rfl rfl ?_
      refine AO.yld _ (Yld.move rfl) rfl rfl rfl ?_
      refine AO.yld _ (Yld.indexSl Try.underlying34 Try.sizeOf110 rfl rfl hrow rfl) rfl rfl rfl ?_
      refine AO.yld _ (Yld.fieldAddr Try.underlying110 rfl rfl Try.sizeOf2 rfl rfl rfl) rfl rfl rfl ?_
      refine AO.yld _ (Yld.load Try.isAgg2 rfl rfl) rfl rfl rfl ?_
      refine AO.yld _ (Yld.add rfl rfl (by omega) (by omega)) rfl rfl rfl ?_
      refine AO.yld _ (Yld.assign rfl) rfl rfl rfl ?_
      refine AO.nil ?_
      refine AC.seq ?_
      refine AC.region ?_
      refine AO.yld _ (Yld.assign rfl) rfl rfl rfl ?_
      refine AO.nil ?_
      refine AC.seq ?_
      refine AC.seq ?_
      refine AC.region ?_
      refine AO.yld _ (Yld.assign rfl) rfl rfl rfl ?_
      refine AO.nil ?_
      refine AC.block ?_
      refine AC.loopC [(0, _), (2, _), (3, _), (4, _), (5, _), (6, _), (7, _), (8, _), (9, _)] [] (fun (j : Nat) => [(12, .p (.v (.int .i64 (j : Int)))), (11, .p (.v (.int .i64 (countTo xs (beginOf x) j)))), (10, .p (.v (.int .i64 (endTo xs (beginOf x) (endOf x) j))))]) (fun (j : Nat) => []) (fun (j : Nat) => j ≤ xs.length) (fun (j : Nat) => xs.length - j) 0 ⟨rfl, rfl, rfl, rfl, rfl, rfl, rfl, rfl, rfl, trivial⟩ trivial ⟨rfl, rfl, rfl, trivial⟩ trivial ?_ (fun j hI => ?_)
      · exact Nat.zero_le _
      · -- round
        refine AC.seq ?_
        refine AC.seq ?_
        refine AC.region ?_
        refine AO.yld _ (Yld.move rfl) rfl rfl rfl ?_
        refine AO.yld _ (Yld.move rfl) rfl rfl rfl ?_
        refine AO.yld _ (Yld.len Try.underlying34 rfl rfl) rfl rfl rfl ?_
        refine AO.yld _ (Yld.int rfl rfl rfl) rfl rfl rfl ?_
        refine AO.nil ?_
        refine AC.cond _ rfl (fun c44 => ?_) (fun c44 => ?_)
        · -- c44 True
          have hj := lt_of_decM c44
          obtain ⟨y, hy⟩ := get_some hj
          have hrowy := map_row (enc := encMach) hy
          have hoy := machines_at hok hy
          have hly := mach_lim hoy
          have hlc := countTo_lim (xs := xs) (b := beginOf x) j
          refine AC.skip ?_
          refine AC.seq ?_
          refine AC.block ?_
          refine AC.seq ?_
          refine AC.region ?_
          refine AO.yld _ (Yld.move rfl) rfl rfl rfl ?_
          refine AO.yld _ (Yld.move rfl) rfl rfl rfl ?_
          refine AO.yld _ (Yld.indexSl Try.underlying34 Try.sizeOf110 rfl rfl hrowy rfl) rfl rfl rfl ?_
          refine AO.yld _ (Yld.move rfl) rfl rfl rfl ?_
          refine AO.yld _ (Yld.call rfl rfl Try.call116 rfl rfl rfl (spec_l26In_c (by assumption)) rfl) rfl rfl rfl ?_
          refine AO.nil ?_
          refine AC.cond _ rfl (fun c51 => ?_) (fun c51 => ?_)
          · -- c51 True
            refine AC.seq ?_
            refine AC.region ?_
            refine AO.yld _ (Yld.move rfl) rfl rfl rfl ?_
            refine AO.yld _ (Yld.add rfl rfl (by omega) (by omega)) rfl rfl rfl ?_
            refine AO.yld _ (Yld.assign rfl) rfl rfl rfl ?_
            refine AO.nil ?_
            refine AC.draw (by kernel_rfl) (by kernel_rfl) ?_
            refine AO.yld _ (Yld.move rfl) rfl rfl rfl ?_
            refine AO.yld _ (Yld.move rfl) rfl rfl rfl ?_
            refine AO.yld _ (Yld.move rfl) rfl rfl rfl ?_
            refine AO.yld _ (Yld.indexSl Try.underlying34 Try.sizeOf110 rfl rfl hrowy rfl) rfl rfl rfl ?_
            refine AO.yld _ (Yld.fieldAddr Try.underlying110 rfl rfl Try.sizeOf2 rfl rfl rfl) rfl rfl rfl ?_
            refine AO.yld _ (Yld.load Try.isAgg2 rfl rfl) rfl rfl rfl ?_
            refine AO.yld _ (Yld.move rfl) rfl rfl rfl ?_
            refine AO.yld _ (Yld.move rfl) rfl rfl rfl ?_
            refine AO.yld _ (Yld.indexSl Try.underlying34 Try.sizeOf110 rfl rfl hrowy rfl) rfl rfl rfl ?_
            refine AO.yld _ (Yld.fieldAddr Try.underlying110 rfl rfl Try.sizeOf2 rfl rfl rfl) rfl rfl rfl ?_
            refine AO.yld _ (Yld.load Try.isAgg2 rfl rfl) rfl rfl rfl ?_
            refine AO.yld _ (Yld.add rfl rfl (by omega) (by omega)) rfl rfl rfl ?_
            refine AO.yld _ (Yld.call rfl rfl Try.call141 rfl rfl rfl (spec_l00Min_c) rfl) rfl rfl rfl ?_
            refine AO.yld _ (Yld.assign rfl) rfl rfl rfl ?_
            refine AO.nil ?_
            refine AC.mark ?_
            refine AC.region ?_
            refine AO.yld _ (Yld.move rfl) rfl rfl rfl ?_
            refine AO.yld _ (Yld.add rfl rfl (by omega) (by omega)) rfl rfl rfl ?_
            refine AO.yld _ (Yld.assign rfl) rfl rfl rfl ?_
            refine AO.nil ?_
            refine AC.back ⟨j + 1, ?_, ?_, ⟨?_, ?_, ?_, trivial⟩, trivial, ⟨rfl, rfl, rfl, rfl, rfl, rfl, rfl, rfl, rfl, trivial⟩, trivial⟩
            · exact hj
            · omega
            · rfl
            · show some (AV.p (PV.v (Value.int IntKind.i64 _))) = _; first | rw [countTo_T (b := beginOf x) hy c51] | rw [countTo_F (b := beginOf x) hy c51]
            · show some (AV.p (PV.v (Value.int IntKind.i64 _))) = _; first | (rw [endTo_T (b := beginOf x) hy c51]; rfl) | rw [endTo_F (b := beginOf x) hy c51]
          · -- c51 False
            refine AC.skip ?_
            refine AC.mark ?_
            refine AC.region ?_
            refine AO.yld _ (Yld.move rfl) rfl rfl rfl ?_
            refine AO.yld _ (Yld.add rfl rfl (by omega) (by omega)) rfl rfl rfl ?_
            refine AO.yld _ (Yld.assign rfl) rfl rfl rfl ?_
            refine AO.nil ?_
            refine AC.back ⟨j + 1, ?_, ?_, ⟨?_, ?_, ?_, trivial⟩, trivial, ⟨rfl, rfl, rfl, rfl, rfl, rfl, rfl, rfl, rfl, trivial⟩, trivial⟩
            · exact hj
            · omega
            · rfl
            · show some (AV.p (PV.v (Value.int IntKind.i64 _))) = _; first | rw [countTo_T (b := beginOf x) hy c51] | rw [countTo_F (b := beginOf x) hy c51]
            · show some (AV.p (PV.v (Value.int IntKind.i64 _))) = _; first | (rw [endTo_T (b := beginOf x) hy c51]; rfl) | rw [endTo_F (b := beginOf x) hy c51]
        · -- c44 False
          obtain rfl : j = xs.length := by have := ge_of_decM c44; omega
          have hlc := countTo_lim (xs := xs) (b := beginOf x) xs.length
          refine AC.exit rfl ?_
          refine AC.seq ?_
          refine AC.region ?_
          refine AO.yld _ (Yld.move rfl) rfl rfl rfl ?_
          refine AO.yld _ (Yld.move rfl) rfl rfl rfl ?_
          refine AO.yld _ (Yld.int rfl rfl rfl) rfl rfl rfl ?_
          refine AO.yld _ (Yld.move rfl) rfl rfl rfl ?_
          refine AO.splitAt 70 _ rfl (fun s70 => ?_) (fun s70 => ?_)
          · -- s70 True
            refine AO.skipF rfl rfl rfl rfl rfl ?_
            refine AO.skipF rfl rfl rfl rfl rfl ?_
            refine AO.skipF rfl rfl rfl rfl rfl ?_
            refine AO.skipF rfl rfl rfl rfl rfl ?_
            refine AO.skipU rfl rfl rfl rfl rfl ?_
            refine AO.skipU rfl rfl rfl rfl rfl ?_
            refine AO.skipU rfl rfl rfl rfl rfl ?_
            refine AO.skipF rfl rfl rfl rfl rfl ?_
            refine AO.yld _ (Yld.pickT rfl rfl) rfl rfl rfl ?_
            refine AO.nil ?_
            refine AC.condT rfl ?_
            refine AC.seq ?_
            refine AC.region ?_
            refine AO.yld _ (Yld.move rfl) rfl rfl rfl ?_
            refine AO.yld _ (Yld.assign rfl) rfl rfl rfl ?_
            refine AO.nil ?_
            refine AC.seq ?_
            refine AC.region ?_
            refine AO.yld _ (Yld.move rfl) rfl rfl rfl ?_
            refine AO.yld _ (Yld.assign rfl) rfl rfl rfl ?_
            refine AO.nil ?_
            refine AC.region ?_
            refine AO.yld _ (Yld.move rfl) rfl rfl rfl ?_
            refine AO.yld _ (Yld.assign rfl) rfl rfl rfl ?_
            refine AO.nil ?_
            refine AC.mark ?_
            refine AC.region ?_
            refine AO.yld _ (Yld.move rfl) rfl rfl rfl ?_
            refine AO.yld _ (Yld.add rfl rfl (by omega) (by omega)) rfl rfl rfl ?_
            refine AO.yld _ (Yld.assign rfl) rfl rfl rfl ?_
            refine AO.nil ?_
            refine AC.back ⟨k + 1, ?_, ?_, ⟨?_, ?_, ?_, ?_, trivial⟩, trivial, ⟨rfl, rfl, rfl, rfl, trivial⟩, trivial⟩
            · exact hk
            · omega
            · rfl
            · show some (AV.p (PV.v (Value.int IntKind.i64 _))) = _; first | (rw [bestB_T hx (by (try simp at *); omega)]; done) | (rw [bestB_T hx (by (try simp at *); omega)]; rfl) | rw [bestB_F hx (by (try simp at *); omega)]
            · show some (AV.p (PV.v (Value.int IntKind.i64 _))) = _; first | (rw [untilB_T hok hx (by (try simp at *); omega)]; done) | rw [untilB_F hok hx (by (try simp at *); omega)]
            · show some (AV.p (PV.v (Value.int IntKind.i64 _))) = _; first | (rw [bestB_T hx (by (try simp at *); omega)]; done) | (rw [bestB_T hx (by (try simp at *); omega)]; rfl) | rw [bestB_F hx (by (try simp at *); omega)]
          · -- s70 False
            refine AO.yldG _ (Yld.move rfl) rfl rfl rfl rfl rfl ?_
            refine AO.yldG _ (Yld.move rfl) rfl rfl rfl rfl rfl ?_
            refine AO.yldG _ (Yld.int rfl rfl rfl) rfl rfl rfl rfl rfl ?_
            refine AO.yldG _ (Yld.move rfl) rfl rfl rfl rfl rfl ?_
            refine AO.splitAt 74 _ rfl (fun s74 => ?_) (fun s74 => ?_)
            · -- s74 True
              refine AO.yldG _ (Yld.move rfl) rfl rfl rfl rfl rfl ?_
              refine AO.yldG _ (Yld.move rfl) rfl rfl rfl rfl rfl ?_
              refine AO.yldG _ (Yld.int rfl rfl rfl) rfl rfl rfl rfl rfl ?_
              refine AO.yldG _ (Yld.pickT rfl rfl) rfl rfl rfl rfl rfl ?_
              refine AO.yld _ (Yld.pickF rfl rfl) rfl rfl rfl ?_
              refine AO.nil ?_
              refine AC.cond _ rfl (fun c79 => ?_) (fun c79 => ?_)
              · -- c79 True
                refine AC.seq ?_
                refine AC.region ?_
                refine AO.yld _ (Yld.move rfl) rfl rfl rfl ?_
                refine AO.yld _ (Yld.assign rfl) rfl rfl rfl ?_
                refine AO.nil ?_
                refine AC.seq ?_
                refine AC.region ?_
                refine AO.yld _ (Yld.move rfl) rfl rfl rfl ?_
                refine AO.yld _ (Yld.assign rfl) rfl rfl rfl ?_
                refine AO.nil ?_
                refine AC.region ?_
                refine AO.yld _ (Yld.move rfl) rfl rfl rfl ?_
                refine AO.yld _ (Yld.assign rfl) rfl rfl rfl ?_
                refine AO.nil ?_
                refine AC.mark ?_
                refine AC.region ?_
                refine AO.yld _ (Yld.move rfl) rfl rfl rfl ?_
                refine AO.yld _ (Yld.add rfl rfl (by omega) (by omega)) rfl rfl rfl ?_
                refine AO.yld _ (Yld.assign rfl) rfl rfl rfl ?_
                refine AO.nil ?_
                refine AC.back ⟨k + 1, ?_, ?_, ⟨?_, ?_, ?_, ?_, trivial⟩, trivial, ⟨rfl, rfl, rfl, rfl, trivial⟩, trivial⟩
                · exact hk
                · omega
                · rfl
                · show some (AV.p (PV.v (Value.int IntKind.i64 _))) = _; first | (rw [bestB_T hx (by (try simp at *); omega)]; done) | (rw [bestB_T hx (by (try simp at *); omega)]; rfl) | rw [bestB_F hx (by (try simp at *); omega)]
                · show some (AV.p (PV.v (Value.int IntKind.i64 _))) = _; first | (rw [untilB_T hok hx (by (try simp at *); omega)]; done) | rw [untilB_F hok hx (by (try simp at *); omega)]
                · show some (AV.p (PV.v (Value.int IntKind.i64 _))) = _; first | (rw [bestB_T hx (by (try simp at *); omega)]; done) | (rw [bestB_T hx (by (try simp at *); omega)]; rfl) | rw [bestB_F hx (by (try simp at *); omega)]
              · -- c79 False
                refine AC.skip ?_
                refine AC.mark ?_
                refine AC.region ?_
                refine AO.yld _ (Yld.move rfl) rfl rfl rfl ?_
                refine AO.yld _ (Yld.add rfl rfl (by omega) (by omega)) rfl rfl rfl ?_
                refine AO.yld _ (Yld.assign rfl) rfl rfl rfl ?_
                refine AO.nil ?_
                refine AC.back ⟨k + 1, ?_, ?_, ⟨?_, ?_, ?_, ?_, trivial⟩, trivial, ⟨rfl, rfl, rfl, rfl, trivial⟩, trivial⟩
                · exact hk
                · omega
                · rfl
                · show some (AV.p (PV.v (Value.int IntKind.i64 _))) = _; first | (rw [bestB_T hx (by (try simp at *); omega)]; done) | (rw [bestB_T hx (by (try simp at *); omega)]; rfl) | rw [bestB_F hx (by (try simp at *); omega)]
                · show some (AV.p (PV.v (Value.int IntKind.i64 _))) = _; first | (rw [untilB_T hok hx (by (try simp at *); omega)]; done) | rw [untilB_F hok hx (by (try simp at *); omega)]
                · show some (AV.p (PV.v (Value.int IntKind.i64 _))) = _; first | (rw [bestB_T hx (by (try simp at *); omega)]; done) | (rw [bestB_T hx (by (try simp at *); omega)]; rfl) | rw [bestB_F hx (by (try simp at *); omega)]
            · -- s74 False
              refine AO.skipT rfl rfl rfl rfl rfl ?_
              refine AO.skipT rfl rfl rfl rfl rfl ?_
              refine AO.skipT rfl rfl rfl rfl rfl ?_
              refine AO.yldG _ (Yld.pickF rfl rfl) rfl rfl rfl rfl rfl ?_
              refine AO.yld _ (Yld.pickF rfl rfl) rfl rfl rfl ?_
              refine AO.nil ?_
              refine AC.condF rfl ?_
              refine AC.skip ?_
              refine AC.mark ?_
              refine AC.region ?_
              refine AO.yld _ (Yld.move rfl) rfl rfl rfl ?_
              refine AO.yld _ (Yld.add rfl rfl (by omega) (by omega)) rfl rfl rfl ?_
              refine AO.yld _ (Yld.assign rfl) rfl rfl rfl ?_
              refine AO.nil ?_
              refine AC.back ⟨k + 1, ?_, ?_, ⟨?_, ?_, ?_, ?_, trivial⟩, trivial, ⟨rfl, rfl, rfl, rfl, trivial⟩, trivial⟩
              · exact hk
              · omega
              · rfl
              · show some (AV.p (PV.v (Value.int IntKind.i64 _))) = _; first | (rw [bestB_T hx (by (try simp at *); omega)]; done) | (rw [bestB_T hx (by (try simp at *); omega)]; rfl) | rw [bestB_F hx (by (try simp at *); omega)]
              · show some (AV.p (PV.v (Value.int IntKind.i64 _))) = _; first | (rw [untilB_T hok hx (by (try simp at *); omega)]; done) | rw [untilB_F hok hx (by (try simp at *); omega)]
              · show some (AV.p (PV.v (Value.int IntKind.i64 _))) = _; first | (rw [bestB_T hx (by (try simp at *); omega)]; done) | (rw [bestB_T hx (by (try simp at *); omega)]; rfl) | rw [bestB_F hx (by (try simp at *); omega)]
    · -- c16 False
      obtain rfl : k = xs.length := by have := ge_of_decM c16; omega
      refine AC.exit rfl ?_
      refine AC.seq ?_
      refine AC.region ?_
      refine AO.yld _ (Yld.move rfl) rfl rfl rfl ?_
      refine AO.yld _ (Yld.move rfl) rfl rfl rfl ?_
      refine AO.yld _ (Yld.move rfl) rfl rfl rfl ?_
      refine AO.yld _ (Yld.assign rfl) rfl rfl rfl ?_
      refine AO.yld _ (Yld.assign rfl) rfl rfl rfl ?_
      refine AO.yld _ (Yld.assign rfl) rfl rfl rfl ?_
      refine AO.nil ?_
      refine Pure.retT Try.results115 (RVs.cons (RV.tmp rfl) (RVs.cons (RV.tmp rfl) (RVs.cons (RV.tmp rfl) RVs.nil))) rfl ?_
      rfl

theorem impl_agreedOffset_c {xs : List Mach} (hn : xs.length ≤ 1048576) (hok : okMachines xs = true) :
    Pure Try.prog 117 [.sl 3 (xs.map encMach)] (.tup [.v (.int .i64 (bestB xs xs.length).1), .v (.int .i64 (bestB xs xs.length).2)]) := by
  refine Pure.intro Try.func117 rfl Try.ntmps117 rfl rfl (fun w => ?_)
  refine AC.seq ?_
  refine AC.region ?_
  refine AO.yld _ (Yld.assign rfl) rfl rfl rfl ?_
  refine AO.yld _ (Yld.assign rfl) rfl rfl rfl ?_
  refine AO.nil ?_
  refine AC.seq ?_
  refine AC.region ?_
  refine AO.yld _ (Yld.assign rfl) rfl rfl rfl ?_
  refine AO.yld _ (Yld.assign rfl) rfl rfl rfl ?_
  refine AO.nil ?_
  refine AC.seq ?_
  refine AC.seq ?_
  refine AC.region ?_
  refine AO.yld _ (Yld.move rfl) rfl rfl rfl ?_
  refine AO.yld _ (Yld.len Try.underlying34 rfl rfl) rfl rfl rfl ?_
  refine AO.yld _ (Yld.move rfl) rfl rfl rfl ?_
  refine AO.nil ?_
  refine AC.block ?_
  refine AC.loopC [(0, _), (2, _), (3, _), (12, _), (13, _)] [] (fun (k : Nat) => [(14, .p (.v (.int .i64 (k : Int)))), (4, .p (.v (.int .i64 (bestB xs k).1))), (5, .p (.v (.int .i64 (bestB xs k).2)))]) (fun (k : Nat) => []) (fun (k : Nat) => k ≤ xs.length) (fun (k : Nat) => xs.length - k) 0 ⟨rfl, rfl, rfl, rfl, rfl, trivial⟩ trivial ⟨rfl, rfl, rfl, trivial⟩ trivial ?_ (fun k hJ => ?_)
  · exact Nat.zero_le _
  · -- round
    refine AC.seq ?_
    refine AC.region ?_
    refine AO.yld _ (Yld.int rfl rfl rfl) rfl rfl rfl ?_
    refine AO.nil ?_
    refine AC.seq ?_
    refine AC.cond _ rfl (fun c15 => ?_) (fun c15 => ?_)
    · -- c15 True
      have hk := lt_of_decM c15
      obtain ⟨x, hx⟩ := get_some hk
      have hrow := map_row (enc := encMach) hx
      have hox := machines_at hok hx
      have hlx := mach_lim hox
      have hbx : beginOf x = x.offset - x.delay := rfl
      have hlb := bestB_lim hok k
      refine AC.skip ?_
      refine AC.seq ?_
      refine AC.block ?_
      refine AC.seq ?_
      refine AC.region ?_
      refine AO.yld _ (Yld.indexSl Try.underlying34 Try.sizeOf110 rfl rfl hrow rfl) rfl rfl rfl ?_
      refine AO.yld _ (Yld.loadAgg Try.isAgg110 Try.sizeOf110 rfl rfl rfl rfl) rfl rfl rfl ?_
      refine AO.alloc 0 Try.zeroValue110 rfl rfl rfl ?_
      refine AO.store Try.sizeOf110 rfl rfl rfl rfl rfl rfl ?_
      refine AO.nil ?_
      refine AC.seq ?_
      refine AC.region ?_
      refine AO.yld _ (Yld.fieldAddr Try.underlying110 rfl rfl Try.sizeOf2 rfl rfl rfl) rfl rfl rfl ?_
      refine AO.yld _ (Yld.load Try.isAgg2 rfl rfl) rfl rfl rfl ?_
      refine AO.yld _ (Yld.fieldAddr Try.underlying110 rfl rfl Try.sizeOf2 rfl rfl rfl) rfl rfl rfl ?_
      refine AO.yld _ (Yld.load Try.isAgg2 rfl rfl) rfl rfl rfl ?_
      refine AO.yld _ (Yld.sub rfl rfl (by omega) (by omega)) rfl rfl rfl ?_
      refine AO.yld _ (Yld.assign rfl) rfl rfl rfl ?_
      refine AO.nil ?_
      refine AC.seq ?_
      refine AC.region ?_
      refine AO.yld _ (Yld.assign rfl) rfl rfl rfl ?_
      refine AO.nil ?_
      refine AC.seq ?_
      refine AC.seq ?_
      refine AC.region ?_
      refine AO.yld _ (Yld.move rfl) rfl rfl rfl ?_
      refine AO.yld _ (Yld.len Try.underlying34 rfl rfl) rfl rfl rfl ?_
      refine AO.yld _ (Yld.move rfl) rfl rfl rfl ?_
      refine AO.nil ?_
      refine AC.block ?_
      refine AC.loopC [(0, _), (2, _), (3, _), (4, _), (5, _), (8, _), (12, _), (13, _), (14, _), (23, _), (24, _)] [(0, _)] (fun (j : Nat) => [(25, .p (.v (.int .i64 (j : Int)))), (9, .p (.v (.int .i64 (countTo xs (beginOf x) j))))]) (fun (j : Nat) => []) (fun (j : Nat) => j ≤ xs.length) (fun (j : Nat) => xs.length - j) 0 ⟨rfl, rfl, rfl, rfl, rfl, rfl, rfl, rfl, rfl, rfl, rfl, trivial⟩ ⟨rfl, trivial⟩ ⟨rfl, rfl, trivial⟩ trivial ?_ (fun j hI => ?_)
      · exact Nat.zero_le _
      · -- round
        refine AC.seq ?_
        refine AC.region ?_
        refine AO.yld _ (Yld.int rfl rfl rfl) rfl rfl rfl ?_
        refine AO.nil ?_
        refine AC.seq ?_
        refine AC.cond _ rfl (fun c26 => ?_) (fun c26 => ?_)
        · -- c26 True
          have hj := lt_of_decM c26
          obtain ⟨y, hy⟩ := get_some hj
          have hrowy := map_row (enc := encMach) hy
          have hoy := machines_at hok hy
          have hly := mach_lim hoy
          have hlc := countTo_lim (xs := xs) (b := beginOf x) j
          refine AC.skip ?_
          refine AC.seq ?_
          refine AC.block ?_
          refine AC.seq ?_
          refine AC.region ?_
          refine AO.yld _ (Yld.indexSl Try.underlying34 Try.sizeOf110 rfl rfl hrowy rfl) rfl rfl rfl ?_
          refine AO.yld _ (Yld.loadAgg Try.isAgg110 Try.sizeOf110 rfl rfl rfl rfl) rfl rfl rfl ?_
          refine AO.alloc 1 Try.zeroValue110 rfl rfl rfl ?_
          refine AO.store Try.sizeOf110 rfl rfl rfl rfl rfl rfl ?_
          refine AO.nil ?_
          refine AC.seq ?_
          refine AC.region ?_
          refine AO.yld _ (Yld.loadAgg Try.isAgg110 Try.sizeOf110 rfl rfl rfl rfl) rfl rfl rfl ?_
          refine AO.yld _ (Yld.move rfl) rfl rfl rfl ?_
          refine AO.yld _ (Yld.call rfl rfl Try.call118 rfl rfl rfl (impl_liesIn_c (by assumption)) rfl) rfl rfl rfl ?_
          refine AO.nil ?_
          refine AC.cond _ rfl (fun c31 => ?_) (fun c31 => ?_)
          · -- c31 True
            refine AC.region ?_
            refine AO.yld _ (Yld.move rfl) rfl rfl rfl ?_
            refine AO.yld _ (Yld.add rfl rfl (by omega) (by omega)) rfl rfl rfl ?_
            refine AO.yld _ (Yld.assign rfl) rfl rfl rfl ?_
            refine AO.nil ?_
            refine AC.mark ?_
            refine AC.region ?_
            refine AO.yld _ (Yld.add rfl rfl (by omega) (by omega)) rfl rfl rfl ?_
            refine AO.yld _ (Yld.move rfl) rfl rfl rfl ?_
            refine AO.nil ?_
            refine AC.back ⟨j + 1, ?_, ?_, ⟨?_, ?_, trivial⟩, trivial, ⟨rfl, rfl, rfl, rfl, rfl, rfl, rfl, rfl, rfl, rfl, rfl, trivial⟩, ⟨rfl, trivial⟩⟩
            · exact hj
            · omega
            · rfl
            · show some (AV.p (PV.v (Value.int IntKind.i64 _))) = _; first | rw [countTo_T (b := beginOf x) hy c31] | rw [countTo_F (b := beginOf x) hy c31]
          · -- c31 False
            refine AC.skip ?_
            refine AC.mark ?_
            refine AC.region ?_
            refine AO.yld _ (Yld.add rfl rfl (by omega) (by omega)) rfl rfl rfl ?_
            refine AO.yld _ (Yld.move rfl) rfl rfl rfl ?_
            refine AO.nil ?_
            refine AC.back ⟨j + 1, ?_, ?_, ⟨?_, ?_, trivial⟩, trivial, ⟨rfl, rfl, rfl, rfl, rfl, rfl, rfl, rfl, rfl, rfl, rfl, trivial⟩, ⟨rfl, trivial⟩⟩
            · exact hj
            · omega
            · rfl
            · show some (AV.p (PV.v (Value.int IntKind.i64 _))) = _; first | rw [countTo_T (b := beginOf x) hy c31] | rw [countTo_F (b := beginOf x) hy c31]
        · -- c26 False
          obtain rfl : j = xs.length := by have := ge_of_decM c26; omega
          have hlc := countTo_lim (xs := xs) (b := beginOf x) xs.length
          refine AC.exit rfl ?_
          refine AC.seq ?_
          refine AC.region ?_
          refine AO.yld _ (Yld.move rfl) rfl rfl rfl ?_
          refine AO.yld _ (Yld.move rfl) rfl rfl rfl ?_
          refine AO.yld _ (Yld.int rfl rfl rfl) rfl rfl rfl ?_
          refine AO.yld _ (Yld.move rfl) rfl rfl rfl ?_
          refine AO.splitAt 38 _ rfl (fun s38 => ?_) (fun s38 => ?_)
          · -- s38 True
            refine AO.skipF rfl rfl rfl rfl rfl ?_
            refine AO.skipF rfl rfl rfl rfl rfl ?_
            refine AO.skipF rfl rfl rfl rfl rfl ?_
            refine AO.skipF rfl rfl rfl rfl rfl ?_
            refine AO.skipU rfl rfl rfl rfl rfl ?_
            refine AO.skipU rfl rfl rfl rfl rfl ?_
            refine AO.skipU rfl rfl rfl rfl rfl ?_
            refine AO.skipF rfl rfl rfl rfl rfl ?_
            refine AO.yld _ (Yld.pickT rfl rfl) rfl rfl rfl ?_
            refine AO.nil ?_
            refine AC.condT rfl ?_
            refine AC.region ?_
            refine AO.yld _ (Yld.move rfl) rfl rfl rfl ?_
            refine AO.yld _ (Yld.move rfl) rfl rfl rfl ?_
            refine AO.yld _ (Yld.assign rfl) rfl rfl rfl ?_
            refine AO.yld _ (Yld.assign rfl) rfl rfl rfl ?_
            refine AO.nil ?_
            refine AC.mark ?_
            refine AC.region ?_
            refine AO.yld _ (Yld.add rfl rfl (by omega) (by omega)) rfl rfl rfl ?_
            refine AO.yld _ (Yld.move rfl) rfl rfl rfl ?_
            refine AO.nil ?_
            refine AC.back ⟨k + 1, ?_, ?_, ⟨?_, ?_, ?_, trivial⟩, trivial, ⟨rfl, rfl, rfl, rfl, rfl, trivial⟩, trivial⟩
            · exact hk
            · omega
            · rfl
            · show some (AV.p (PV.v (Value.int IntKind.i64 _))) = _; first | (rw [bestB_T hx (by (try simp at *); omega)]; done) | (rw [bestB_T hx (by (try simp at *); omega)]; rfl) | rw [bestB_F hx (by (try simp at *); omega)]
            · show some (AV.p (PV.v (Value.int IntKind.i64 _))) = _; first | (rw [bestB_T hx (by (try simp at *); omega)]; done) | (rw [bestB_T hx (by (try simp at *); omega)]; rfl) | rw [bestB_F hx (by (try simp at *); omega)]
          · -- s38 False
            refine AO.yldG _ (Yld.move rfl) rfl rfl rfl rfl rfl ?_
            refine AO.yldG _ (Yld.move rfl) rfl rfl rfl rfl rfl ?_
            refine AO.yldG _ (Yld.int rfl rfl rfl) rfl rfl rfl rfl rfl ?_
            refine AO.yldG _ (Yld.move rfl) rfl rfl rfl rfl rfl ?_
            refine AO.splitAt 42 _ rfl (fun s42 => ?_) (fun s42 => ?_)
            · -- s42 True
              refine AO.yldG _ (Yld.move rfl) rfl rfl rfl rfl rfl ?_
              refine AO.yldG _ (Yld.move rfl) rfl rfl rfl rfl rfl ?_
              refine AO.yldG _ (Yld.int rfl rfl rfl) rfl rfl rfl rfl rfl ?_
              refine AO.yldG _ (Yld.pickT rfl rfl) rfl rfl rfl rfl rfl ?_
              refine AO.yld _ (Yld.pickF rfl rfl) rfl rfl rfl ?_
              refine AO.nil ?_
              refine AC.cond _ rfl (fun c47 => ?_) (fun c47 => ?_)
              · -- c47 True
                refine AC.region ?_
                refine AO.yld _ (Yld.move rfl) rfl rfl rfl ?_
                refine AO.yld _ (Yld.move rfl) rfl rfl rfl ?_
                refine AO.yld _ (Yld.assign rfl) rfl rfl rfl ?_
                refine AO.yld _ (Yld.assign rfl) rfl rfl rfl ?_
                refine AO.nil ?_
                refine AC.mark ?_
                refine AC.region ?_
                refine AO.yld _ (Yld.add rfl rfl (by omega) (by omega)) rfl rfl rfl ?_
                refine AO.yld _ (Yld.move rfl) rfl rfl rfl ?_
                refine AO.nil ?_
                refine AC.back ⟨k + 1, ?_, ?_, ⟨?_, ?_, ?_, trivial⟩, trivial, ⟨rfl, rfl, rfl, rfl, rfl, trivial⟩, trivial⟩
                · exact hk
                · omega
                · rfl
                · show some (AV.p (PV.v (Value.int IntKind.i64 _))) = _; first | (rw [bestB_T hx (by (try simp at *); omega)]; done) | (rw [bestB_T hx (by (try simp at *); omega)]; rfl) | rw [bestB_F hx (by (try simp at *); omega)]
                · show some (AV.p (PV.v (Value.int IntKind.i64 _))) = _; first | (rw [bestB_T hx (by (try simp at *); omega)]; done) | (rw [bestB_T hx (by (try simp at *); omega)]; rfl) | rw [bestB_F hx (by (try simp at *); omega)]
              · -- c47 False
                refine AC.skip ?_
                refine AC.mark ?_
                refine AC.region ?_
                refine AO.yld _ (Yld.add rfl rfl (by omega) (by omega)) rfl rfl rfl ?_
                refine AO.yld _ (Yld.move rfl) rfl rfl rfl ?_
                refine AO.nil ?_
                refine AC.back ⟨k + 1, ?_, ?_, ⟨?_, ?_, ?_, trivial⟩, trivial, ⟨rfl, rfl, rfl, rfl, rfl, trivial⟩, trivial⟩
                · exact hk
                · omega
                · rfl
                · show some (AV.p (PV.v (Value.int IntKind.i64 _))) = _; first | (rw [bestB_T hx (by (try simp at *); omega)]; done) | (rw [bestB_T hx (by (try simp at *); omega)]; rfl) | rw [bestB_F hx (by (try simp at *); omega)]
                · show some (AV.p (PV.v (Value.int IntKind.i64 _))) = _; first | (rw [bestB_T hx (by (try simp at *); omega)]; done) | (rw [bestB_T hx (by (try simp at *); omega)]; rfl) | rw [bestB_F hx (by (try simp at *); omega)]
            · -- s42 False
              refine AO.skipT rfl rfl rfl rfl rfl ?_
              refine AO.skipT rfl rfl rfl rfl rfl ?_
              refine AO.skipT rfl rfl rfl rfl rfl ?_
              refine AO.yldG _ (Yld.pickF rfl rfl) rfl rfl rfl rfl rfl ?_
              refine AO.yld _ (Yld.pickF rfl rfl) rfl rfl rfl ?_
              refine AO.nil ?_
              refine AC.condF rfl ?_
              refine AC.skip ?_
              refine AC.mark ?_
              refine AC.region ?_
              refine AO.yld _ (Yld.add rfl rfl (by omega) (by omega)) rfl rfl rfl ?_
              refine AO.yld _ (Yld.move rfl) rfl rfl rfl ?_
              refine AO.nil ?_
              refine AC.back ⟨k + 1, ?_, ?_, ⟨?_, ?_, ?_, trivial⟩, trivial, ⟨rfl, rfl, rfl, rfl, rfl, trivial⟩, trivial⟩
              · exact hk
              · omega
              · rfl
              · show some (AV.p (PV.v (Value.int IntKind.i64 _))) = _; first | (rw [bestB_T hx (by (try simp at *); omega)]; done) | (rw [bestB_T hx (by (try simp at *); omega)]; rfl) | rw [bestB_F hx (by (try simp at *); omega)]
              · show some (AV.p (PV.v (Value.int IntKind.i64 _))) = _; first | (rw [bestB_T hx (by (try simp at *); omega)]; done) | (rw [bestB_T hx (by (try simp at *); omega)]; rfl) | rw [bestB_F hx (by (try simp at *); omega)]
    · -- c15 False
      obtain rfl : k = xs.length := by have := ge_of_decM c15; omega
      refine AC.exit rfl ?_
      refine AC.seq ?_
      refine AC.region ?_
      refine AO.yld _ (Yld.move rfl) rfl rfl rfl ?_
      refine AO.yld _ (Yld.move rfl) rfl rfl rfl ?_
      refine AO.yld _ (Yld.assign rfl) rfl rfl rfl ?_
      refine AO.yld _ (Yld.assign rfl) rfl rfl rfl ?_
      refine AO.nil ?_
      refine Pure.retT Try.results117 (RVs.cons (RV.tmp rfl) (RVs.cons (RV.tmp rfl) RVs.nil)) rfl ?_
      rfl

end Go.Proofs.Ytaanabofedickaa
