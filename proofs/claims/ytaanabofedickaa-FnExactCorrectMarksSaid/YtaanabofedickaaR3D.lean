/- Contracts of functions of the program, each by a walk of its text in the calculus V. -/
import Derived.Test.YtaanabofedickaaR3C
import Derived.Test.YtaanabofedickaaD13
set_option linter.all false
set_option linter.unusedSimpArgs false
set_option linter.unnecessarySimpa false
set_option linter.unusedVariables false
namespace Go.Proofs.Ytaanabofedickaa
open Go Go.V

theorem cloneMark_c {xs : List CMark} (hn : xs.length ≤ 1048576) :
    FnE (α := Unit) Try.prog 98 [.p (.sl 4 (xs.map encCMark))] [] [] (fun _ => True) (fun _ => .h 0) (fun _ => [(0, .vec 134 4 (xs.map encCMark))]) := by
  refine FnE.intro Try.func98 rfl Try.ntmps98 rfl rfl (fun w0 F0 η φ w => ?_)
  refine AC.seq ?_
  refine AC.region ?_
  refine AO.yld _ (Yld.assign rfl) rfl rfl rfl ?_
  refine AO.nil ?_
  refine AC.seq ?_
  refine AC.seq ?_
  refine AC.region ?_
  refine AO.yld _ (Yld.move rfl) rfl rfl rfl ?_
  refine AO.eqNil Try.underlying55 rfl rfl rfl (fun z4 hz4 => ?_)
  refine AO.nil ?_
  refine AC.cond _ rfl (fun c4 => ?_) (fun c4 => ?_)
  · -- c4 True
    refine AC.seq ?_
    refine AC.region ?_
    refine AO.yld _ (Yld.assign rfl) rfl rfl rfl ?_
    refine AO.nil ?_
    refine AC.nilVec 2 0 134 4 rfl rfl ?_
    refine FnE.ret () [0] [0] Try.results98 (RVs.cons (RV.tmp rfl) RVs.nil) rfl rfl rfl ?_ ?_ ⟨⟨_, rfl, ?_⟩, trivial⟩
    · -- holds
      trivial
    · -- value
      rfl
    · -- thing 0
      first | rfl | (refine vecE ?_; first | rfl | (obtain rfl : xs = [] := List.eq_nil_of_length_eq_zero (by simpa using hz4 c4); rfl))
  · -- c4 False
    refine AC.skip ?_
    refine AC.seq ?_
    refine AC.region ?_
    refine AO.buildSlice (rows := []) 0 Try.underlying55 ty134 rfl rfl rfl rfl rfl rfl rfl rfl rfl ?_
    refine AO.yld _ (Yld.move rfl) rfl rfl rfl ?_
    refine AO.append 0 Try.underlying55 ty134 rfl rfl rfl rfl rfl rfl rfl (fun r hr q hq => by obtain ⟨y, _, rfl⟩ := List.mem_map.1 hr; simp only [encCMark, List.mem_cons, List.not_mem_nil, or_false] at hq; rcases hq with rfl | rfl | rfl | rfl <;> rfl) (by simp only [List.length_map, List.length_cons, List.length_nil]; omega) (by simp only [List.length_map, List.length_cons, List.length_nil]; omega) rfl ?_
    refine AO.yld _ (Yld.assign rfl) rfl rfl rfl ?_
    refine AO.nil ?_
    refine FnE.ret () [0] [0] Try.results98 (RVs.cons (RV.tmp rfl) RVs.nil) rfl rfl rfl ?_ ?_ ⟨⟨_, rfl, ?_⟩, trivial⟩
    · -- holds
      trivial
    · -- value
      rfl
    · -- thing 0
      first | rfl | (refine vecE ?_; first | rfl | (obtain rfl : xs = [] := List.eq_nil_of_length_eq_zero (by simpa using hz4 c4); rfl))

theorem spec_l28Correct_c {xs : List CMark} {t l : Int} (hn : xs.length ≤ 1048576) (hok : xs.all okMark = true) (ht : -5000 ≤ t ∧ t ≤ 5000) (hl : -5000 ≤ l ∧ l ≤ 5000) :
    FnE (α := Unit) Try.prog 95 [.p (.sl 4 (xs.map encCMark)), .p (.v (.int .i64 t)), .p (.v (.int .i64 l))] [] [] (fun _ => True) (fun _ => .tup [.h 0, .p (.v (.bool (fitsAll t l xs)))]) (fun _ => [(0, .vec 134 4 ((fixL t l xs).map encCMark))]) := by
  refine FnE.intro Try.func95 rfl Try.ntmps95 rfl rfl (fun w0 F0 η φ w => ?_)
  refine AC.seq ?_
  refine AC.region ?_
  refine AO.yld _ (Yld.assign rfl) rfl rfl rfl ?_
  refine AO.yld _ (Yld.assign rfl) rfl rfl rfl ?_
  refine AO.nil ?_
  refine AC.seq ?_
  refine AC.region ?_
  refine AO.buildSlice (rows := []) 0 Try.underlying55 ty134 rfl rfl rfl rfl rfl rfl rfl rfl rfl ?_
  refine AO.yld _ (Yld.assign rfl) rfl rfl rfl ?_
  refine AO.nil ?_
  refine AC.seq ?_
  refine AC.seq ?_
  refine AC.region ?_
  refine AO.yld _ (Yld.assign rfl) rfl rfl rfl ?_
  refine AO.nil ?_
  refine AC.block ?_
  refine AC.loopC [(0, _), (1, _), (2, _)] [(900, _)] (fun (k : Nat) => [(9, .p (.v (.int .i64 (k : Int)))), (8, .h 0)]) (fun (k : Nat) => [(0, .vec 134 4 (((xs.take k).map (fixM t l)).map encCMark))]) (fun (k : Nat) => k ≤ xs.length ∧ allTo (fun x => okMark (fixM t l x)) xs k = true) (fun (k : Nat) => xs.length - k) 0 ⟨rfl, rfl, rfl, trivial⟩ ⟨rfl, trivial⟩ ⟨rfl, rfl, trivial⟩ ⟨rfl, trivial⟩ ?_ (fun k hJ => ?_)
  · exact ⟨Nat.zero_le _, rfl⟩
  · -- round
    refine AC.seq ?_
    refine AC.seq ?_
    refine AC.region ?_
    refine AO.yld _ (Yld.move rfl) rfl rfl rfl ?_
    refine AO.yld _ (Yld.move rfl) rfl rfl rfl ?_
    refine AO.yld _ (Yld.len Try.underlying55 rfl rfl) rfl rfl rfl ?_
    refine AO.yld _ (Yld.int rfl rfl rfl) rfl rfl rfl ?_
    refine AO.nil ?_
    refine AC.cond _ rfl (fun c15 => ?_) (fun c15 => ?_)
    · -- c15 True
      have hk := lt_of_decM c15
      obtain ⟨x, hx⟩ := get_some hk
      have hrow := map_row (enc := encCMark) hx
      have hlm := mark_lim (all_at hok hx)
      have hfx := fix_lim (t := t) (l := l) (all_at hok hx)
      have htk : (xs.take k).length ≤ 1048576 := by simp only [List.length_take]; omega
      refine AC.skip ?_
      refine AC.seq ?_
      refine AC.block ?_
      refine AC.seq ?_
      refine AC.region ?_
      refine AO.yld _ (Yld.move rfl) rfl rfl rfl ?_
      refine AO.yld _ (Yld.move rfl) rfl rfl rfl ?_
      refine AO.yld _ (Yld.indexSl Try.underlying55 Try.sizeOf134 rfl rfl hrow rfl) rfl rfl rfl ?_
      refine AO.yld _ (Yld.loadAgg Try.isAgg134 Try.sizeOf134 rfl rfl rfl rfl) rfl rfl rfl ?_
      refine AO.alloc 1 Try.zeroValue134 rfl rfl rfl ?_
      refine AO.store Try.sizeOf134 rfl rfl rfl rfl rfl rfl ?_
      refine AO.nil ?_
      refine AC.seq ?_
      refine AC.region ?_
      refine AO.yld _ (Yld.fieldAddr Try.underlying134 rfl rfl Try.sizeOf2 rfl rfl rfl) rfl rfl rfl ?_
      refine AO.yld _ (Yld.load Try.isAgg2 rfl rfl) rfl rfl rfl ?_
      refine AO.yld _ (Yld.move rfl) rfl rfl rfl ?_
      refine AO.yld _ (Yld.add rfl rfl (by omega) (by omega)) rfl rfl rfl ?_
      refine AO.yld _ (Yld.call rfl rfl Try.call139 rfl rfl rfl (spec_l02Normal_c (by omega) (by omega)) rfl) rfl rfl rfl ?_
      refine AO.yld _ (Yld.fieldAddr Try.underlying134 rfl rfl Try.sizeOf2 rfl rfl rfl) rfl rfl rfl ?_
      refine AO.store Try.sizeOf2 rfl rfl rfl rfl rfl rfl ?_
      refine AO.nil ?_
      refine AC.seq ?_
      refine AC.region ?_
      refine AO.yld _ (Yld.fieldAddr Try.underlying134 rfl rfl Try.sizeOf2 rfl rfl rfl) rfl rfl rfl ?_
      refine AO.yld _ (Yld.load Try.isAgg2 rfl rfl) rfl rfl rfl ?_
      refine AO.yld _ (Yld.move rfl) rfl rfl rfl ?_
      refine AO.yld _ (Yld.add rfl rfl (by omega) (by omega)) rfl rfl rfl ?_
      refine AO.yld _ (Yld.call rfl rfl Try.call141 rfl rfl rfl (spec_l00Min_c) rfl) rfl rfl rfl ?_
      refine AO.yld _ (Yld.call rfl rfl Try.call140 rfl rfl rfl (spec_l00Max_c) rfl) rfl rfl rfl ?_
      refine AO.yld _ (Yld.fieldAddr Try.underlying134 rfl rfl Try.sizeOf2 rfl rfl rfl) rfl rfl rfl ?_
      refine AO.store Try.sizeOf2 rfl rfl rfl rfl rfl rfl ?_
      refine AO.nil ?_
      refine AC.seq ?_
      refine AC.seq ?_
      refine AC.region ?_
      refine AO.yld _ (Yld.call rfl rfl Try.call138 rfl rfl rfl (spec_l28One_c (x := fixM t l x) hfx.1 hfx.2.1 hfx.2.2.1 hfx.2.2.2) rfl) rfl rfl rfl ?_
      refine AO.yld _ (Yld.not rfl) rfl rfl rfl ?_
      refine AO.nil ?_
      refine AC.cond _ rfl (fun c36 => ?_) (fun c36 => ?_)
      · -- c36 True
        refine AC.seq ?_
        refine AC.region ?_
        refine AO.yld _ (Yld.assign rfl) rfl rfl rfl ?_
        refine AO.yld _ (Yld.assign rfl) rfl rfl rfl ?_
        refine AO.nil ?_
        refine AC.nilVec 6 2 134 4 rfl rfl ?_
        refine FnE.ret () [2] [0] Try.results95 (RVs.cons (RV.tmp rfl) (RVs.cons (RV.tmp rfl) RVs.nil)) rfl rfl rfl ?_ ?_ ⟨⟨_, rfl, ?_⟩, trivial⟩
        · -- holds
          trivial
        · -- value
          refine tupB ?_; first | exact (fits_all hJ.2).symm | exact (fits_miss hx (by simpa using c36)).symm
        · -- thing 0
          refine vecE ?_; first | (rw [fixL, if_pos (fits_all hJ.2), List.take_of_length_le (Nat.le_refl _)]) | (rw [fixL, if_neg (by rw [fits_miss hx (by simpa using c36)]; simp)]; rfl)
      · -- c36 False
        refine AC.skip ?_
        refine AC.region ?_
        refine AO.yld _ (Yld.move rfl) rfl rfl rfl ?_
        refine AO.yld _ (Yld.loadAgg Try.isAgg134 Try.sizeOf134 rfl rfl rfl rfl) rfl rfl rfl ?_
        refine AO.buildSlice (rows := [[_, _, _, _]]) 2 Try.underlying55 ty134 rfl rfl rfl rfl rfl rfl rfl rfl rfl ?_
        refine AO.append 0 Try.underlying55 ty134 rfl rfl rfl rfl rfl rfl rfl (by simp [pvOne]) (by simp only [List.length_map, List.length_cons, List.length_nil]; omega) (by simp only [List.length_map, List.length_cons, List.length_nil]; omega) rfl ?_
        refine AO.yld _ (Yld.assign rfl) rfl rfl rfl ?_
        refine AO.nil ?_
        refine AC.mark ?_
        refine AC.region ?_
        refine AO.yld _ (Yld.move rfl) rfl rfl rfl ?_
        refine AO.yld _ (Yld.add rfl rfl (by omega) (by omega)) rfl rfl rfl ?_
        refine AO.yld _ (Yld.assign rfl) rfl rfl rfl ?_
        refine AO.nil ?_
        refine AC.back ⟨k + 1, ?_, ?_, ⟨?_, ?_, trivial⟩, ⟨?_, trivial⟩, ⟨rfl, rfl, rfl, trivial⟩, ⟨rfl, trivial⟩⟩
        · exact ⟨hk, by rw [allTo_succ hx, hJ.2]; simpa using c36⟩
        · omega
        · rfl
        · rfl
        · rw [take_snoc hx, map_snoc, map_snoc]; rfl
    · -- c15 False
      obtain rfl : k = xs.length := by have := ge_of_decM c15; omega
      refine AC.exit rfl ?_
      refine AC.seq ?_
      refine AC.region ?_
      refine AO.yld _ (Yld.move rfl) rfl rfl rfl ?_
      refine AO.yld _ (Yld.assign rfl) rfl rfl rfl ?_
      refine AO.yld _ (Yld.assign rfl) rfl rfl rfl ?_
      refine AO.nil ?_
      refine FnE.ret () [0] [0] Try.results95 (RVs.cons (RV.tmp rfl) (RVs.cons (RV.tmp rfl) RVs.nil)) rfl rfl rfl ?_ ?_ ⟨⟨_, rfl, ?_⟩, trivial⟩
      · -- holds
        trivial
      · -- value
        refine tupB ?_; first | exact (fits_all hJ.2).symm | exact (fits_miss hx (by simpa using c36)).symm
      · -- thing 0
        refine vecE ?_; first | (rw [fixL, if_pos (fits_all hJ.2), List.take_of_length_le (Nat.le_refl _)]) | (rw [fixL, if_neg (by rw [fits_miss hx (by simpa using c36)]; simp)]; rfl)

theorem spec_CorrectMarks_c {xs : List CMark} {t l : Int} (hn : xs.length ≤ 1048576) (hw : ∀ x ∈ xs, i64b x.az ∧ i64b x.al ∧ i64b x.found ∧ i64b x.height) :
    FnE (α := Unit) Try.prog 36 [.p (.sl 4 (xs.map encCMark)), .p (.v (.int .i64 t)), .p (.v (.int .i64 l))] [] [] (fun _ => True) (fun _ => .tup [.h 0, .p (.v (.int .i64 (correctMarks xs t l).2))]) (fun _ => [(0, .vec 134 4 ((correctMarks xs t l).1.map encCMark))]) := by
  refine FnE.intro Try.func36 rfl Try.ntmps36 rfl rfl (fun w0 F0 η φ w => ?_)
  refine AC.seq ?_
  refine AC.region ?_
  refine AO.yld _ (Yld.assign rfl) rfl rfl rfl ?_
  refine AO.yld _ (Yld.assign rfl) rfl rfl rfl ?_
  refine AO.nil ?_
  refine AC.seq ?_
  refine AC.region ?_
  refine AO.yld _ (Yld.move rfl) rfl rfl rfl ?_
  refine AO.yld _ (Yld.call rfl rfl Try.call93 rfl rfl rfl (spec_l28Ask_c (by first | assumption | omega) (by assumption)) rfl) rfl rfl rfl ?_
  refine AO.yld _ (Yld.assign rfl) rfl rfl rfl ?_
  refine AO.nil ?_
  refine AC.seq ?_
  refine AC.seq ?_
  refine AC.region ?_
  refine AO.yld _ (Yld.move rfl) rfl rfl rfl ?_
  refine AO.yld _ (Yld.int rfl rfl rfl) rfl rfl rfl ?_
  refine AO.yld _ (Yld.move rfl) rfl rfl rfl ?_
  refine AO.splitAt 15 _ rfl (fun s15 => ?_) (fun s15 => ?_)
  · -- s15 True
    refine AO.yldG _ (Yld.move rfl) rfl rfl rfl rfl rfl ?_
    refine AO.yldG _ (Yld.call rfl rfl Try.call94 rfl rfl rfl (spec_l28Shift_c) rfl) rfl rfl rfl rfl rfl ?_
    refine AO.yldG _ (Yld.not rfl) rfl rfl rfl rfl rfl ?_
    refine AO.yldG _ (Yld.move rfl) rfl rfl rfl rfl rfl ?_
    refine AO.splitAt 19 _ rfl (fun s19 => ?_) (fun s19 => ?_)
    · -- s19 True
      refine AO.skipF rfl rfl rfl rfl rfl ?_
      refine AO.skipF rfl rfl rfl rfl rfl ?_
      refine AO.skipF rfl rfl rfl rfl rfl ?_
      refine AO.yldG _ (Yld.pickT rfl rfl) rfl rfl rfl rfl rfl ?_
      refine AO.yld _ (Yld.pickT rfl rfl) rfl rfl rfl ?_
      refine AO.nil ?_
      refine AC.condT rfl ?_
      refine AC.region ?_
      refine AO.yld _ (Yld.assign rfl) rfl rfl rfl ?_
      refine AO.nil ?_
      refine AC.seq ?_
      refine AC.seq ?_
      refine AC.region ?_
      refine AO.yld _ (Yld.move rfl) rfl rfl rfl ?_
      refine AO.yld _ (Yld.int rfl rfl rfl) rfl rfl rfl ?_
      refine AO.nil ?_
      refine AC.cond _ rfl (fun c26 => ?_) (fun c26 => ?_)
      · -- c26 True
        refine AC.seq ?_
        refine AC.region ?_
        refine AO.yld _ (Yld.move rfl) rfl rfl rfl ?_
        refine AO.yld _ (Yld.assign rfl) rfl rfl rfl ?_
        refine AO.yld _ (Yld.assign rfl) rfl rfl rfl ?_
        refine AO.nil ?_
        refine AC.nilVec 6 0 134 4 rfl rfl ?_
        refine FnE.ret () [0] [0] Try.results36 (RVs.cons (RV.tmp rfl) (RVs.cons (RV.tmp rfl) RVs.nil)) rfl rfl rfl ?_ ?_ ⟨⟨_, rfl, ?_⟩, trivial⟩
        · -- holds
          trivial
        · -- value
          refine tupE ?_; first | (simp_all [correctMarks, fixL]; done) | grind [correctMarks, fixL]
        · -- thing 0
          refine vecE ?_; first | (simp_all [correctMarks, fixL]; done) | grind [correctMarks, fixL]
      · -- c26 False
        have hk0 : askMarks xs = 0 := by first | (simpa using c26) | (exact absurd c26 (by decide))
        obtain ⟨hall, hl1⟩ := askMarks_ok hk0
        have htl : (-5000 ≤ t ∧ t ≤ 5000) ∧ (-5000 ≤ l ∧ l ≤ 5000) := by simp_all
        obtain ⟨ht, hl⟩ := htl
        refine AC.skip ?_
        refine AC.seq ?_
        refine AC.region ?_
        refine AO.yld _ (Yld.move rfl) rfl rfl rfl ?_
        refine AO.yld _ (Yld.move rfl) rfl rfl rfl ?_
        refine AO.yld _ (Yld.move rfl) rfl rfl rfl ?_
        refine AO.callW (wantedN rfl) [0] [] [0] rfl rfl Try.call95 rfl (spec_l28Correct_c (by first | assumption | omega) (by assumption) (by omega) (by omega)) (.flat (.view rfl rfl (.view rfl rfl (.view rfl rfl .nil))) (fun _ => by simp [AV.Flat, AV.FlatL, PV.Flat, PV.FlatL]) (fun _ => ⟨flat_map flatCMark _, trivial⟩)) rfl (fun _ => rfl) trivial rfl (fun _ => rfl) (fun _ => rfl) (fun _ _ => ?_)
        refine AO.yld _ (Yld.move rfl) rfl rfl rfl ?_
        refine AO.yld _ (Yld.extract rfl rfl rfl) rfl rfl rfl ?_
        refine AO.yld _ (Yld.extract rfl rfl rfl) rfl rfl rfl ?_
        refine AO.yld _ (Yld.assign rfl) rfl rfl rfl ?_
        refine AO.yld _ (Yld.assign rfl) rfl rfl rfl ?_
        refine AO.nil ?_
        refine AC.seq ?_
        refine AC.seq ?_
        refine AC.region ?_
        refine AO.yld _ (Yld.move rfl) rfl rfl rfl ?_
        refine AO.yld _ (Yld.not rfl) rfl rfl rfl ?_
        refine AO.nil ?_
        refine AC.cond _ rfl (fun c36 => ?_) (fun c36 => ?_)
        · -- c36 True
          refine AC.seq ?_
          refine AC.region ?_
          refine AO.yld _ (Yld.assign rfl) rfl rfl rfl ?_
          refine AO.yld _ (Yld.assign rfl) rfl rfl rfl ?_
          refine AO.nil ?_
          refine AC.nilVec 6 1 134 4 rfl rfl ?_
          refine FnE.ret () [1] [0] Try.results36 (RVs.cons (RV.tmp rfl) (RVs.cons (RV.tmp rfl) RVs.nil)) rfl rfl rfl ?_ ?_ ⟨⟨_, rfl, ?_⟩, trivial⟩
          · -- holds
            trivial
          · -- value
            refine tupE ?_; first | (simp_all [correctMarks, fixL]; done) | grind [correctMarks, fixL]
          · -- thing 0
            refine vecE ?_; first | (simp_all [correctMarks, fixL]; done) | grind [correctMarks, fixL]
        · -- c36 False
          refine AC.skip ?_
          refine AC.seq ?_
          refine AC.region ?_
          refine AO.yld _ (Yld.move rfl) rfl rfl rfl ?_
          refine AO.yld _ (Yld.assign rfl) rfl rfl rfl ?_
          refine AO.yld _ (Yld.assign rfl) rfl rfl rfl ?_
          refine AO.nil ?_
          refine FnE.ret () [0] [0] Try.results36 (RVs.cons (RV.tmp rfl) (RVs.cons (RV.tmp rfl) RVs.nil)) rfl rfl rfl ?_ ?_ ⟨⟨_, rfl, ?_⟩, trivial⟩
          · -- holds
            trivial
          · -- value
            refine tupE ?_; first | (simp_all [correctMarks, fixL]; done) | grind [correctMarks, fixL]
          · -- thing 0
            refine vecE ?_; first | (simp_all [correctMarks, fixL]; done) | grind [correctMarks, fixL]
    · -- s19 False
      refine AO.yldG _ (Yld.move rfl) rfl rfl rfl rfl rfl ?_
      refine AO.yldG _ (Yld.call rfl rfl Try.call94 rfl rfl rfl (spec_l28Shift_c) rfl) rfl rfl rfl rfl rfl ?_
      refine AO.yldG _ (Yld.not rfl) rfl rfl rfl rfl rfl ?_
      refine AO.yldG _ (Yld.pickF rfl rfl) rfl rfl rfl rfl rfl ?_
      refine AO.yld _ (Yld.pickT rfl rfl) rfl rfl rfl ?_
      refine AO.nil ?_
      refine AC.cond _ rfl (fun c24 => ?_) (fun c24 => ?_)
      · -- c24 True
        refine AC.region ?_
        refine AO.yld _ (Yld.assign rfl) rfl rfl rfl ?_
        refine AO.nil ?_
        refine AC.seq ?_
        refine AC.seq ?_
        refine AC.region ?_
        refine AO.yld _ (Yld.move rfl) rfl rfl rfl ?_
        refine AO.yld _ (Yld.int rfl rfl rfl) rfl rfl rfl ?_
        refine AO.nil ?_
        refine AC.cond _ rfl (fun c26 => ?_) (fun c26 => ?_)
        · -- c26 True
          refine AC.seq ?_
          refine AC.region ?_
          refine AO.yld _ (Yld.move rfl) rfl rfl rfl ?_
          refine AO.yld _ (Yld.assign rfl) rfl rfl rfl ?_
          refine AO.yld _ (Yld.assign rfl) rfl rfl rfl ?_
          refine AO.nil ?_
          refine AC.nilVec 6 0 134 4 rfl rfl ?_
          refine FnE.ret () [0] [0] Try.results36 (RVs.cons (RV.tmp rfl) (RVs.cons (RV.tmp rfl) RVs.nil)) rfl rfl rfl ?_ ?_ ⟨⟨_, rfl, ?_⟩, trivial⟩
          · -- holds
            trivial
          · -- value
            refine tupE ?_; first | (simp_all [correctMarks, fixL]; done) | grind [correctMarks, fixL]
          · -- thing 0
            refine vecE ?_; first | (simp_all [correctMarks, fixL]; done) | grind [correctMarks, fixL]
        · -- c26 False
          have hk0 : askMarks xs = 0 := by first | (simpa using c26) | (exact absurd c26 (by decide))
          obtain ⟨hall, hl1⟩ := askMarks_ok hk0
          have htl : (-5000 ≤ t ∧ t ≤ 5000) ∧ (-5000 ≤ l ∧ l ≤ 5000) := by simp_all
          obtain ⟨ht, hl⟩ := htl
          refine AC.skip ?_
          refine AC.seq ?_
          refine AC.region ?_
          refine AO.yld _ (Yld.move rfl) rfl rfl rfl ?_
          refine AO.yld _ (Yld.move rfl) rfl rfl rfl ?_
          refine AO.yld _ (Yld.move rfl) rfl rfl rfl ?_
          refine AO.callW (wantedN rfl) [0] [] [0] rfl rfl Try.call95 rfl (spec_l28Correct_c (by first | assumption | omega) (by assumption) (by omega) (by omega)) (.flat (.view rfl rfl (.view rfl rfl (.view rfl rfl .nil))) (fun _ => by simp [AV.Flat, AV.FlatL, PV.Flat, PV.FlatL]) (fun _ => ⟨flat_map flatCMark _, trivial⟩)) rfl (fun _ => rfl) trivial rfl (fun _ => rfl) (fun _ => rfl) (fun _ _ => ?_)
          refine AO.yld _ (Yld.move rfl) rfl rfl rfl ?_
          refine AO.yld _ (Yld.extract rfl rfl rfl) rfl rfl rfl ?_
          refine AO.yld _ (Yld.extract rfl rfl rfl) rfl rfl rfl ?_
          refine AO.yld _ (Yld.assign rfl) rfl rfl rfl ?_
          refine AO.yld _ (Yld.assign rfl) rfl rfl rfl ?_
          refine AO.nil ?_
          refine AC.seq ?_
          refine AC.seq ?_
          refine AC.region ?_
          refine AO.yld _ (Yld.move rfl) rfl rfl rfl ?_
          refine AO.yld _ (Yld.not rfl) rfl rfl rfl ?_
          refine AO.nil ?_
          refine AC.cond _ rfl (fun c36 => ?_) (fun c36 => ?_)
          · -- c36 True
            refine AC.seq ?_
            refine AC.region ?_
            refine AO.yld _ (Yld.assign rfl) rfl rfl rfl ?_
            refine AO.yld _ (Yld.assign rfl) rfl rfl rfl ?_
            refine AO.nil ?_
            refine AC.nilVec 6 1 134 4 rfl rfl ?_
            refine FnE.ret () [1] [0] Try.results36 (RVs.cons (RV.tmp rfl) (RVs.cons (RV.tmp rfl) RVs.nil)) rfl rfl rfl ?_ ?_ ⟨⟨_, rfl, ?_⟩, trivial⟩
            · -- holds
              trivial
            · -- value
              refine tupE ?_; first | (simp_all [correctMarks, fixL]; done) | grind [correctMarks, fixL]
            · -- thing 0
              refine vecE ?_; first | (simp_all [correctMarks, fixL]; done) | grind [correctMarks, fixL]
          · -- c36 False
            refine AC.skip ?_
            refine AC.seq ?_
            refine AC.region ?_
            refine AO.yld _ (Yld.move rfl) rfl rfl rfl ?_
            refine AO.yld _ (Yld.assign rfl) rfl rfl rfl ?_
            refine AO.yld _ (Yld.assign rfl) rfl rfl rfl ?_
            refine AO.nil ?_
            refine FnE.ret () [0] [0] Try.results36 (RVs.cons (RV.tmp rfl) (RVs.cons (RV.tmp rfl) RVs.nil)) rfl rfl rfl ?_ ?_ ⟨⟨_, rfl, ?_⟩, trivial⟩
            · -- holds
              trivial
            · -- value
              refine tupE ?_; first | (simp_all [correctMarks, fixL]; done) | grind [correctMarks, fixL]
            · -- thing 0
              refine vecE ?_; first | (simp_all [correctMarks, fixL]; done) | grind [correctMarks, fixL]
      · -- c24 False
        refine AC.skip ?_
        refine AC.seq ?_
        refine AC.seq ?_
        refine AC.region ?_
        refine AO.yld _ (Yld.move rfl) rfl rfl rfl ?_
        refine AO.yld _ (Yld.int rfl rfl rfl) rfl rfl rfl ?_
        refine AO.nil ?_
        refine AC.cond _ rfl (fun c26 => ?_) (fun c26 => ?_)
        · -- c26 True
          refine AC.seq ?_
          refine AC.region ?_
          refine AO.yld _ (Yld.move rfl) rfl rfl rfl ?_
          refine AO.yld _ (Yld.assign rfl) rfl rfl rfl ?_
          refine AO.yld _ (Yld.assign rfl) rfl rfl rfl ?_
          refine AO.nil ?_
          refine AC.nilVec 6 0 134 4 rfl rfl ?_
          refine FnE.ret () [0] [0] Try.results36 (RVs.cons (RV.tmp rfl) (RVs.cons (RV.tmp rfl) RVs.nil)) rfl rfl rfl ?_ ?_ ⟨⟨_, rfl, ?_⟩, trivial⟩
          · -- holds
            trivial
          · -- value
            refine tupE ?_; first | (simp_all [correctMarks, fixL]; done) | grind [correctMarks, fixL]
          · -- thing 0
            refine vecE ?_; first | (simp_all [correctMarks, fixL]; done) | grind [correctMarks, fixL]
        · -- c26 False
          have hk0 : askMarks xs = 0 := by first | (simpa using c26) | (exact absurd c26 (by decide))
          obtain ⟨hall, hl1⟩ := askMarks_ok hk0
          have htl : (-5000 ≤ t ∧ t ≤ 5000) ∧ (-5000 ≤ l ∧ l ≤ 5000) := by simp_all
          obtain ⟨ht, hl⟩ := htl
          refine AC.skip ?_
          refine AC.seq ?_
          refine AC.region ?_
          refine AO.yld _ (Yld.move rfl) rfl rfl rfl ?_
          refine AO.yld _ (Yld.move rfl) rfl rfl rfl ?_
          refine AO.yld _ (Yld.move rfl) rfl rfl rfl ?_
          refine AO.callW (wantedN rfl) [0] [] [0] rfl rfl Try.call95 rfl (spec_l28Correct_c (by first | assumption | omega) (by assumption) (by omega) (by omega)) (.flat (.view rfl rfl (.view rfl rfl (.view rfl rfl .nil))) (fun _ => by simp [AV.Flat, AV.FlatL, PV.Flat, PV.FlatL]) (fun _ => ⟨flat_map flatCMark _, trivial⟩)) rfl (fun _ => rfl) trivial rfl (fun _ => rfl) (fun _ => rfl) (fun _ _ => ?_)
          refine AO.yld _ (Yld.move rfl) rfl rfl rfl ?_
          refine AO.yld _ (Yld.extract rfl rfl rfl) rfl rfl rfl ?_
          refine AO.yld _ (Yld.extract rfl rfl rfl) rfl rfl rfl ?_
          refine AO.yld _ (Yld.assign rfl) rfl rfl rfl ?_
          refine AO.yld _ (Yld.assign rfl) rfl rfl rfl ?_
          refine AO.nil ?_
          refine AC.seq ?_
          refine AC.seq ?_
          refine AC.region ?_
          refine AO.yld _ (Yld.move rfl) rfl rfl rfl ?_
          refine AO.yld _ (Yld.not rfl) rfl rfl rfl ?_
          refine AO.nil ?_
          refine AC.cond _ rfl (fun c36 => ?_) (fun c36 => ?_)
          · -- c36 True
            refine AC.seq ?_
            refine AC.region ?_
            refine AO.yld _ (Yld.assign rfl) rfl rfl rfl ?_
            refine AO.yld _ (Yld.assign rfl) rfl rfl rfl ?_
            refine AO.nil ?_
            refine AC.nilVec 6 1 134 4 rfl rfl ?_
            refine FnE.ret () [1] [0] Try.results36 (RVs.cons (RV.tmp rfl) (RVs.cons (RV.tmp rfl) RVs.nil)) rfl rfl rfl ?_ ?_ ⟨⟨_, rfl, ?_⟩, trivial⟩
            · -- holds
              trivial
            · -- value
              refine tupE ?_; first | (simp_all [correctMarks, fixL]; done) | grind [correctMarks, fixL]
            · -- thing 0
              refine vecE ?_; first | (simp_all [correctMarks, fixL]; done) | grind [correctMarks, fixL]
          · -- c36 False
            refine AC.skip ?_
            refine AC.seq ?_
            refine AC.region ?_
            refine AO.yld _ (Yld.move rfl) rfl rfl rfl ?_
            refine AO.yld _ (Yld.assign rfl) rfl rfl rfl ?_
            refine AO.yld _ (Yld.assign rfl) rfl rfl rfl ?_
            refine AO.nil ?_
            refine FnE.ret () [0] [0] Try.results36 (RVs.cons (RV.tmp rfl) (RVs.cons (RV.tmp rfl) RVs.nil)) rfl rfl rfl ?_ ?_ ⟨⟨_, rfl, ?_⟩, trivial⟩
            · -- holds
              trivial
            · -- value
              refine tupE ?_; first | (simp_all [correctMarks, fixL]; done) | grind [correctMarks, fixL]
            · -- thing 0
              refine vecE ?_; first | (simp_all [correctMarks, fixL]; done) | grind [correctMarks, fixL]
  · -- s15 False
    refine AO.skipT rfl rfl rfl rfl rfl ?_
    refine AO.skipT rfl rfl rfl rfl rfl ?_
    refine AO.skipT rfl rfl rfl rfl rfl ?_
    refine AO.skipT rfl rfl rfl rfl rfl ?_
    refine AO.skipU rfl rfl rfl rfl rfl ?_
    refine AO.skipU rfl rfl rfl rfl rfl ?_
    refine AO.skipU rfl rfl rfl rfl rfl ?_
    refine AO.skipT rfl rfl rfl rfl rfl ?_
    refine AO.yld _ (Yld.pickF rfl rfl) rfl rfl rfl ?_
    refine AO.nil ?_
    refine AC.condF rfl ?_
    refine AC.skip ?_
    refine AC.seq ?_
    refine AC.seq ?_
    refine AC.region ?_
    refine AO.yld _ (Yld.move rfl) rfl rfl rfl ?_
    refine AO.yld _ (Yld.int rfl rfl rfl) rfl rfl rfl ?_
    refine AO.nil ?_
    refine AC.cond _ rfl (fun c26 => ?_) (fun c26 => ?_)
    · -- c26 True
      refine AC.seq ?_
      refine AC.region ?_
      refine AO.yld _ (Yld.move rfl) rfl rfl rfl ?_
      refine AO.yld _ (Yld.assign rfl) rfl rfl rfl ?_
      refine AO.yld _ (Yld.assign rfl) rfl rfl rfl ?_
      refine AO.nil ?_
      refine AC.nilVec 6 0 134 4 rfl rfl ?_
      refine FnE.ret () [0] [0] Try.results36 (RVs.cons (RV.tmp rfl) (RVs.cons (RV.tmp rfl) RVs.nil)) rfl rfl rfl ?_ ?_ ⟨⟨_, rfl, ?_⟩, trivial⟩
      · -- holds
        trivial
      · -- value
        refine tupE ?_; first | (simp_all [correctMarks, fixL]; done) | grind [correctMarks, fixL]
      · -- thing 0
        refine vecE ?_; first | (simp_all [correctMarks, fixL]; done) | grind [correctMarks, fixL]
    · -- c26 False
      have hk0 : askMarks xs = 0 := by first | (simpa using c26) | (exact absurd c26 (by decide))
      obtain ⟨hall, hl1⟩ := askMarks_ok hk0
      have htl : (-5000 ≤ t ∧ t ≤ 5000) ∧ (-5000 ≤ l ∧ l ≤ 5000) := by simp_all
      obtain ⟨ht, hl⟩ := htl
      refine AC.skip ?_
      refine AC.seq ?_
      refine AC.region ?_
      refine AO.yld _ (Yld.move rfl) rfl rfl rfl ?_
      refine AO.yld _ (Yld.move rfl) rfl rfl rfl ?_
      refine AO.yld _ (Yld.move rfl) rfl rfl rfl ?_
      refine AO.callW (wantedN rfl) [0] [] [0] rfl rfl Try.call95 rfl (spec_l28Correct_c (by first | assumption | omega) (by assumption) (by omega) (by omega)) (.flat (.view rfl rfl (.view rfl rfl (.view rfl rfl .nil))) (fun _ => by simp [AV.Flat, AV.FlatL, PV.Flat, PV.FlatL]) (fun _ => ⟨flat_map flatCMark _, trivial⟩)) rfl (fun _ => rfl) trivial rfl (fun _ => rfl) (fun _ => rfl) (fun _ _ => ?_)
      refine AO.yld _ (Yld.move rfl) rfl rfl rfl ?_
      refine AO.yld _ (Yld.extract rfl rfl rfl) rfl rfl rfl ?_
      refine AO.yld _ (Yld.extract rfl rfl rfl) rfl rfl rfl ?_
      refine AO.yld _ (Yld.assign rfl) rfl rfl rfl ?_
      refine AO.yld _ (Yld.assign rfl) rfl rfl rfl ?_
      refine AO.nil ?_
      refine AC.seq ?_
      refine AC.seq ?_
      refine AC.region ?_
      refine AO.yld _ (Yld.move rfl) rfl rfl rfl ?_
      refine AO.yld _ (Yld.not rfl) rfl rfl rfl ?_
      refine AO.nil ?_
      refine AC.cond _ rfl (fun c36 => ?_) (fun c36 => ?_)
      · -- c36 True
        refine AC.seq ?_
        refine AC.region ?_
        refine AO.yld _ (Yld.assign rfl) rfl rfl rfl ?_
        refine AO.yld _ (Yld.assign rfl) rfl rfl rfl ?_
        refine AO.nil ?_
        refine AC.nilVec 6 1 134 4 rfl rfl ?_
        refine FnE.ret () [1] [0] Try.results36 (RVs.cons (RV.tmp rfl) (RVs.cons (RV.tmp rfl) RVs.nil)) rfl rfl rfl ?_ ?_ ⟨⟨_, rfl, ?_⟩, trivial⟩
        · -- holds
          trivial
        · -- value
          refine tupE ?_; first | (simp_all [correctMarks, fixL]; done) | grind [correctMarks, fixL]
        · -- thing 0
          refine vecE ?_; first | (simp_all [correctMarks, fixL]; done) | grind [correctMarks, fixL]
      · -- c36 False
        refine AC.skip ?_
        refine AC.seq ?_
        refine AC.region ?_
        refine AO.yld _ (Yld.move rfl) rfl rfl rfl ?_
        refine AO.yld _ (Yld.assign rfl) rfl rfl rfl ?_
        refine AO.yld _ (Yld.assign rfl) rfl rfl rfl ?_
        refine AO.nil ?_
        refine FnE.ret () [0] [0] Try.results36 (RVs.cons (RV.tmp rfl) (RVs.cons (RV.tmp rfl) RVs.nil)) rfl rfl rfl ?_ ?_ ⟨⟨_, rfl, ?_⟩, trivial⟩
        · -- holds
          trivial
        · -- value
          refine tupE ?_; first | (simp_all [correctMarks, fixL]; done) | grind [correctMarks, fixL]
        · -- thing 0
          refine vecE ?_; first | (simp_all [correctMarks, fixL]; done) | grind [correctMarks, fixL]

theorem impl_CorrectMarks_c {xs : List CMark} {t l : Int} (hn : xs.length ≤ 1048576) (hw : ∀ x ∈ xs, i64b x.az ∧ i64b x.al ∧ i64b x.found ∧ i64b x.height) :
    FnE (α := Unit) Try.prog 38 [.p (.sl 4 (xs.map encCMark)), .p (.v (.int .i64 t)), .p (.v (.int .i64 l))] [] [] (fun _ => True) (fun _ => .tup [.h 0, .p (.v (.int .i64 (correctMarks xs t l).2))]) (fun _ => [(0, .vec 134 4 ((correctMarks xs t l).1.map encCMark))]) := by
  have hM : (xs.map encCMark).length = xs.length := List.length_map ..
  refine FnE.intro Try.func38 rfl Try.ntmps38 rfl rfl (fun w0 F0 η φ w => ?_)
  refine AC.seq ?_
  refine AC.region ?_
  refine AO.yld _ (Yld.assign rfl) rfl rfl rfl ?_
  refine AO.yld _ (Yld.assign rfl) rfl rfl rfl ?_
  refine AO.nil ?_
  refine AC.seq ?_
  refine AC.seq ?_
  refine AC.region ?_
  refine AO.yld _ (Yld.move rfl) rfl rfl rfl ?_
  refine AO.yld _ (Yld.call rfl rfl Try.call97 rfl rfl rfl (impl_checkMarks_c (by first | assumption | omega) (by assumption)) rfl) rfl rfl rfl ?_
  refine AO.yld _ (Yld.assign rfl) rfl rfl rfl ?_
  refine AO.nil ?_
  refine AC.seq ?_
  refine AC.region ?_
  refine AO.yld _ (Yld.move rfl) rfl rfl rfl ?_
  refine AO.yld _ (Yld.int rfl rfl rfl) rfl rfl rfl ?_
  refine AO.nil ?_
  refine AC.cond _ rfl (fun c14 => ?_) (fun c14 => ?_)
  · -- c14 True
    refine AC.seq ?_
    refine AC.region ?_
    refine AO.yld _ (Yld.move rfl) rfl rfl rfl ?_
    refine AO.yld _ (Yld.assign rfl) rfl rfl rfl ?_
    refine AO.yld _ (Yld.assign rfl) rfl rfl rfl ?_
    refine AO.nil ?_
    refine AC.nilVec 6 0 134 4 rfl rfl ?_
    refine FnE.ret () [0] [0] Try.results38 (RVs.cons (RV.tmp rfl) (RVs.cons (RV.tmp rfl) RVs.nil)) rfl rfl rfl ?_ ?_ ⟨⟨_, rfl, ?_⟩, trivial⟩
    · -- holds
      trivial
    · -- value
      refine tupE ?_; first | (simp_all [correctMarks]; done) | (simp only [correctMarks, if_pos hk0, if_neg hno]; done) | (simp only [correctMarks, if_pos hk0, if_pos htb, if_pos (fits_all hJ.2)]) | (simp only [correctMarks, if_pos hk0, if_pos htb, if_neg (show ¬ fitsAll t l xs = true by rw [fits_miss hx (by simpa using c61)]; simp)])
    · -- thing 0
      refine vecE ?_; first | (simp_all [correctMarks]; done) | (simp only [correctMarks, if_pos hk0, if_neg hno]; rfl) | (rw [mixed_end]; simp only [correctMarks, if_pos hk0, if_pos htb, if_pos (fits_all hJ.2)]) | (simp only [correctMarks, if_pos hk0, if_pos htb, if_neg (show ¬ fitsAll t l xs = true by rw [fits_miss hx (by simpa using c61)]; simp)]; rfl)
  · -- c14 False
    have hk0 : askMarks xs = 0 := by first | (simpa using c14) | (exact absurd c14 (by decide))
    obtain ⟨hall, hl1⟩ := askMarks_ok hk0
    refine AC.skip ?_
    refine AC.seq ?_
    refine AC.seq ?_
    refine AC.region ?_
    refine AO.yld _ (Yld.move rfl) rfl rfl rfl ?_
    refine AO.yld _ (Yld.call rfl rfl Try.call70 rfl rfl rfl (impl_within_c) rfl) rfl rfl rfl ?_
    refine AO.yld _ (Yld.not rfl) rfl rfl rfl ?_
    refine AO.yld _ (Yld.move rfl) rfl rfl rfl ?_
    refine AO.splitAt 19 _ rfl (fun s19 => ?_) (fun s19 => ?_)
    · -- s19 True
      have hno : ¬ ((decide (-5000 ≤ t) && decide (t ≤ 5000)) && (decide (-5000 ≤ l) && decide (l ≤ 5000))) = true := by clear hw; first | grind | (simp_all; done)
      refine AO.skipF rfl rfl rfl rfl rfl ?_
      refine AO.skipF rfl rfl rfl rfl rfl ?_
      refine AO.skipF rfl rfl rfl rfl rfl ?_
      refine AO.yld _ (Yld.pickT rfl rfl) rfl rfl rfl ?_
      refine AO.nil ?_
      refine AC.condT rfl ?_
      refine AC.seq ?_
      refine AC.region ?_
      refine AO.yld _ (Yld.assign rfl) rfl rfl rfl ?_
      refine AO.yld _ (Yld.assign rfl) rfl rfl rfl ?_
      refine AO.nil ?_
      refine AC.nilVec 6 0 134 4 rfl rfl ?_
      refine FnE.ret () [0] [0] Try.results38 (RVs.cons (RV.tmp rfl) (RVs.cons (RV.tmp rfl) RVs.nil)) rfl rfl rfl ?_ ?_ ⟨⟨_, rfl, ?_⟩, trivial⟩
      · -- holds
        trivial
      · -- value
        refine tupE ?_; first | (simp_all [correctMarks]; done) | (simp only [correctMarks, if_pos hk0, if_neg hno]; done) | (simp only [correctMarks, if_pos hk0, if_pos htb, if_pos (fits_all hJ.2)]) | (simp only [correctMarks, if_pos hk0, if_pos htb, if_neg (show ¬ fitsAll t l xs = true by rw [fits_miss hx (by simpa using c61)]; simp)])
      · -- thing 0
        refine vecE ?_; first | (simp_all [correctMarks]; done) | (simp only [correctMarks, if_pos hk0, if_neg hno]; rfl) | (rw [mixed_end]; simp only [correctMarks, if_pos hk0, if_pos htb, if_pos (fits_all hJ.2)]) | (simp only [correctMarks, if_pos hk0, if_pos htb, if_neg (show ¬ fitsAll t l xs = true by rw [fits_miss hx (by simpa using c61)]; simp)]; rfl)
    · -- s19 False
      refine AO.yldG _ (Yld.move rfl) rfl rfl rfl rfl rfl ?_
      refine AO.yldG _ (Yld.call rfl rfl Try.call70 rfl rfl rfl (impl_within_c) rfl) rfl rfl rfl rfl rfl ?_
      refine AO.yldG _ (Yld.not rfl) rfl rfl rfl rfl rfl ?_
      refine AO.yld _ (Yld.pickF rfl rfl) rfl rfl rfl ?_
      refine AO.nil ?_
      refine AC.cond _ rfl (fun c23 => ?_) (fun c23 => ?_)
      · -- c23 True
        have hno : ¬ ((decide (-5000 ≤ t) && decide (t ≤ 5000)) && (decide (-5000 ≤ l) && decide (l ≤ 5000))) = true := by clear hw; first | grind | (simp_all; done)
        refine AC.seq ?_
        refine AC.region ?_
        refine AO.yld _ (Yld.assign rfl) rfl rfl rfl ?_
        refine AO.yld _ (Yld.assign rfl) rfl rfl rfl ?_
        refine AO.nil ?_
        refine AC.nilVec 6 0 134 4 rfl rfl ?_
        refine FnE.ret () [0] [0] Try.results38 (RVs.cons (RV.tmp rfl) (RVs.cons (RV.tmp rfl) RVs.nil)) rfl rfl rfl ?_ ?_ ⟨⟨_, rfl, ?_⟩, trivial⟩
        · -- holds
          trivial
        · -- value
          refine tupE ?_; first | (simp_all [correctMarks]; done) | (simp only [correctMarks, if_pos hk0, if_neg hno]; done) | (simp only [correctMarks, if_pos hk0, if_pos htb, if_pos (fits_all hJ.2)]) | (simp only [correctMarks, if_pos hk0, if_pos htb, if_neg (show ¬ fitsAll t l xs = true by rw [fits_miss hx (by simpa using c61)]; simp)])
        · -- thing 0
          refine vecE ?_; first | (simp_all [correctMarks]; done) | (simp only [correctMarks, if_pos hk0, if_neg hno]; rfl) | (rw [mixed_end]; simp only [correctMarks, if_pos hk0, if_pos htb, if_pos (fits_all hJ.2)]) | (simp only [correctMarks, if_pos hk0, if_pos htb, if_neg (show ¬ fitsAll t l xs = true by rw [fits_miss hx (by simpa using c61)]; simp)]; rfl)
      · -- c23 False
        have htl : (-5000 ≤ t ∧ t ≤ 5000) ∧ (-5000 ≤ l ∧ l ≤ 5000) := by simp_all
        obtain ⟨ht, hl⟩ := htl
        have htb : ((decide (-5000 ≤ t) && decide (t ≤ 5000)) && (decide (-5000 ≤ l) && decide (l ≤ 5000))) = true := by simp; omega
        refine AC.skip ?_
        refine AC.seq ?_
        refine AC.region ?_
        refine AO.yld _ (Yld.move rfl) rfl rfl rfl ?_
        refine AO.callW (wantedN rfl) [0] [] [0] rfl rfl Try.call98 rfl (cloneMark_c (by first | assumption | omega)) (.flat (.view rfl rfl .nil) (fun _ => by simp [AV.Flat, AV.FlatL, PV.Flat, PV.FlatL]) (fun _ => ⟨flat_map flatCMark _, trivial⟩)) rfl (fun _ => rfl) trivial rfl (fun _ => rfl) (fun _ => rfl) (fun _ _ => ?_)
        refine AO.yld _ (Yld.assign rfl) rfl rfl rfl ?_
        refine AO.nil ?_
        refine AC.seq ?_
        refine AC.seq ?_
        refine AC.region ?_
        refine AO.yld _ (Yld.move rfl) rfl rfl rfl ?_
        refine AO.yld _ (Yld.len Try.underlying55 rfl rfl) rfl rfl rfl ?_
        refine AO.yld _ (Yld.move rfl) rfl rfl rfl ?_
        refine AO.nil ?_
        refine AC.block ?_
        refine AC.loopC [(1, _), (2, _), (9, _), (27, _)] [(900, _)] (fun (k : Nat) => [(28, .p (.v (.int .i64 (k : Int)))), (9, .h 0)]) (fun (k : Nat) => [(0, .vec 134 4 (mixed (fixM t l) encCMark xs k))]) (fun (k : Nat) => k ≤ xs.length ∧ allTo (fun x => okMark (fixM t l x)) xs k = true) (fun (k : Nat) => xs.length - k) 0 ⟨rfl, rfl, rfl, rfl, trivial⟩ ⟨rfl, trivial⟩ ⟨rfl, rfl, trivial⟩ ⟨by rw [mixed_zero]; rfl, trivial⟩ ?_ (fun k hJ => ?_)
        · exact ⟨Nat.zero_le _, rfl⟩
        · -- round
          refine AC.seq ?_
          refine AC.region ?_
          refine AO.yld _ (Yld.int rfl rfl rfl) rfl rfl rfl ?_
          refine AO.nil ?_
          refine AC.seq ?_
          refine AC.cond _ rfl (fun c29 => ?_) (fun c29 => ?_)
          · -- c29 True
            have hk : k < xs.length := by have h := c29; simpa using h
            obtain ⟨x, hx⟩ := get_some hk
            have hlm := mark_lim (all_at hall hx)
            have hfx := fix_lim (t := t) (l := l) (all_at hall hx)
            refine AC.skip ?_
            refine AC.seq ?_
            refine AC.block ?_
            refine AC.seq ?_
            refine AC.region ?_
            refine AO.yld _ (Yld.move rfl) rfl rfl rfl ?_
            refine AO.yld _ (Yld.assign rfl) rfl rfl rfl ?_
            refine AO.nil ?_
            refine AC.seq ?_
            refine AC.region ?_
            refine AO.yld _ (Yld.move rfl) rfl rfl rfl ?_
            refine AO.yld _ (Yld.move rfl) rfl rfl rfl ?_
            refine AO.yld _ (Yld.move rfl) rfl rfl rfl ?_
            refine AO.yld _ (Yld.move rfl) rfl rfl rfl ?_
            refine AO.yld _ (Yld.indexVec Try.underlying55 Try.sizeOf134 rfl rfl rfl rfl (by first | (rw [mixed_length (by omega)]; exact hk) | (simp only [List.length_set]; rw [mixed_length (by omega)]; exact hk))) rfl rfl rfl ?_
            refine AO.yld _ (Yld.fieldAddr Try.underlying134 rfl rfl Try.sizeOf2 rfl (behind_el rfl (mixed_get hx)) rfl) rfl rfl rfl ?_
            refine AO.yld _ (Yld.load Try.isAgg2 rfl (Eq.trans (behind_el rfl (mixed_get hx)) rfl)) rfl rfl rfl ?_
            refine AO.yld _ (Yld.move rfl) rfl rfl rfl ?_
            refine AO.yld _ (Yld.add rfl rfl (by omega) (by omega)) rfl rfl rfl ?_
            refine AO.yld _ (Yld.call rfl rfl Try.call99 rfl rfl rfl (impl_NormalAngle_c (by omega) (by omega)) rfl) rfl rfl rfl ?_
            refine AO.yld _ (Yld.indexVec Try.underlying55 Try.sizeOf134 rfl rfl rfl rfl (by first | (rw [mixed_length (by omega)]; exact hk) | (simp only [List.length_set]; rw [mixed_length (by omega)]; exact hk))) rfl rfl rfl ?_
            refine AO.yld _ (Yld.fieldAddr Try.underlying134 rfl rfl Try.sizeOf2 rfl (behind_el rfl (mixed_get hx)) rfl) rfl rfl rfl ?_
            refine AO.store Try.sizeOf2 rfl rfl rfl rfl rfl (store_el rfl (mixed_get hx) rfl rfl) ?_
            refine AO.nil ?_
            refine AC.seq ?_
            refine AC.region ?_
            refine AO.yld _ (Yld.move rfl) rfl rfl rfl ?_
            refine AO.yld _ (Yld.move rfl) rfl rfl rfl ?_
            refine AO.yld _ (Yld.move rfl) rfl rfl rfl ?_
            refine AO.yld _ (Yld.move rfl) rfl rfl rfl ?_
            refine AO.yld _ (Yld.indexVec Try.underlying55 Try.sizeOf134 rfl rfl rfl rfl (by first | (rw [mixed_length (by omega)]; exact hk) | (simp only [List.length_set]; rw [mixed_length (by omega)]; exact hk))) rfl rfl rfl ?_
            refine AO.yld _ (Yld.fieldAddr Try.underlying134 rfl rfl Try.sizeOf2 rfl (behind_el rfl (set_get (by first | (rw [mixed_length (by omega)]; exact hk) | (simp only [List.length_set]; rw [mixed_length (by omega)]; exact hk)))) rfl) rfl rfl rfl ?_
            refine AO.yld _ (Yld.load Try.isAgg2 rfl (Eq.trans (behind_el rfl (set_get (by first | (rw [mixed_length (by omega)]; exact hk) | (simp only [List.length_set]; rw [mixed_length (by omega)]; exact hk)))) rfl)) rfl rfl rfl ?_
            refine AO.yld _ (Yld.move rfl) rfl rfl rfl ?_
            refine AO.yld _ (Yld.add rfl rfl (by omega) (by omega)) rfl rfl rfl ?_
            refine AO.yld _ (Yld.min2 rfl rfl) rfl rfl rfl ?_
            refine AO.yld _ (Yld.max2 rfl rfl) rfl rfl rfl ?_
            refine AO.yld _ (Yld.indexVec Try.underlying55 Try.sizeOf134 rfl rfl rfl rfl (by first | (rw [mixed_length (by omega)]; exact hk) | (simp only [List.length_set]; rw [mixed_length (by omega)]; exact hk))) rfl rfl rfl ?_
            refine AO.yld _ (Yld.fieldAddr Try.underlying134 rfl rfl Try.sizeOf2 rfl (behind_el rfl (set_get (by first | (rw [mixed_length (by omega)]; exact hk) | (simp only [List.length_set]; rw [mixed_length (by omega)]; exact hk)))) rfl) rfl rfl rfl ?_
            refine AO.store Try.sizeOf2 rfl rfl rfl rfl rfl (store_el rfl (set_get (by first | (rw [mixed_length (by omega)]; exact hk) | (simp only [List.length_set]; rw [mixed_length (by omega)]; exact hk))) rfl rfl) ?_
            refine AO.nil ?_
            refine AC.seq ?_
            refine AC.region ?_
            refine AO.yld _ (Yld.move rfl) rfl rfl rfl ?_
            refine AO.yld _ (Yld.move rfl) rfl rfl rfl ?_
            refine AO.yld _ (Yld.indexVec Try.underlying55 Try.sizeOf134 rfl rfl rfl rfl (by first | (rw [mixed_length (by omega)]; exact hk) | (simp only [List.length_set]; rw [mixed_length (by omega)]; exact hk))) rfl rfl rfl ?_
            refine AO.yld _ (Yld.loadAgg Try.isAgg134 Try.sizeOf134 rfl (Eq.trans (behind_el rfl (set_get (by first | (rw [mixed_length (by omega)]; exact hk) | (simp only [List.length_set]; rw [mixed_length (by omega)]; exact hk)))) rfl) rfl rfl) rfl rfl rfl ?_
            refine AO.yld _ (Yld.call rfl rfl Try.call100 rfl rfl rfl (impl_ValidMark_c (x := fixM t l x) hfx.1 hfx.2.1 hfx.2.2.1 hfx.2.2.2) rfl) rfl rfl rfl ?_
            refine AO.yld _ (Yld.not rfl) rfl rfl rfl ?_
            refine AO.nil ?_
            refine AC.cond _ rfl (fun c61 => ?_) (fun c61 => ?_)
            · -- c61 True
              refine AC.seq ?_
              refine AC.region ?_
              refine AO.yld _ (Yld.assign rfl) rfl rfl rfl ?_
              refine AO.yld _ (Yld.assign rfl) rfl rfl rfl ?_
              refine AO.nil ?_
              refine AC.nilVec 6 1 134 4 rfl rfl ?_
              refine FnE.ret () [1] [0] Try.results38 (RVs.cons (RV.tmp rfl) (RVs.cons (RV.tmp rfl) RVs.nil)) rfl rfl rfl ?_ ?_ ⟨⟨_, rfl, ?_⟩, trivial⟩
              · -- holds
                trivial
              · -- value
                refine tupE ?_; first | (simp_all [correctMarks]; done) | (simp only [correctMarks, if_pos hk0, if_neg hno]; done) | (simp only [correctMarks, if_pos hk0, if_pos htb, if_pos (fits_all hJ.2)]) | (simp only [correctMarks, if_pos hk0, if_pos htb, if_neg (show ¬ fitsAll t l xs = true by rw [fits_miss hx (by simpa using c61)]; simp)])
              · -- thing 0
                refine vecE ?_; first | (simp_all [correctMarks]; done) | (simp only [correctMarks, if_pos hk0, if_neg hno]; rfl) | (rw [mixed_end]; simp only [correctMarks, if_pos hk0, if_pos htb, if_pos (fits_all hJ.2)]) | (simp only [correctMarks, if_pos hk0, if_pos htb, if_neg (show ¬ fitsAll t l xs = true by rw [fits_miss hx (by simpa using c61)]; simp)]; rfl)
            · -- c61 False
              refine AC.skip ?_
              refine AC.mark ?_
              refine AC.region ?_
              refine AO.yld _ (Yld.add rfl rfl (by omega) (by omega)) rfl rfl rfl ?_
              refine AO.yld _ (Yld.move rfl) rfl rfl rfl ?_
              refine AO.nil ?_
              refine AC.back ⟨k + 1, ?_, ?_, ⟨?_, ?_, trivial⟩, ⟨?_, trivial⟩, ⟨rfl, rfl, rfl, rfl, trivial⟩, ⟨rfl, trivial⟩⟩
              · exact ⟨hk, by rw [allTo_succ hx, hJ.2]; simpa using c61⟩
              · omega
              · rfl
              · rfl
              · simp only [List.set_set]
                rw [← mixed_set hx]; rfl
          · -- c29 False
            obtain rfl : k = xs.length := by have h := c29; simp at h; omega
            refine AC.exit rfl ?_
            refine AC.seq ?_
            refine AC.region ?_
            refine AO.yld _ (Yld.move rfl) rfl rfl rfl ?_
            refine AO.yld _ (Yld.assign rfl) rfl rfl rfl ?_
            refine AO.yld _ (Yld.assign rfl) rfl rfl rfl ?_
            refine AO.nil ?_
            refine FnE.ret () [0] [0] Try.results38 (RVs.cons (RV.tmp rfl) (RVs.cons (RV.tmp rfl) RVs.nil)) rfl rfl rfl ?_ ?_ ⟨⟨_, rfl, ?_⟩, trivial⟩
            · -- holds
              trivial
            · -- value
              refine tupE ?_; first | (simp_all [correctMarks]; done) | (simp only [correctMarks, if_pos hk0, if_neg hno]; done) | (simp only [correctMarks, if_pos hk0, if_pos htb, if_pos (fits_all hJ.2)]) | (simp only [correctMarks, if_pos hk0, if_pos htb, if_neg (show ¬ fitsAll t l xs = true by rw [fits_miss hx (by simpa using c61)]; simp)])
            · -- thing 0
              refine vecE ?_; first | (simp_all [correctMarks]; done) | (simp only [correctMarks, if_pos hk0, if_neg hno]; rfl) | (rw [mixed_end]; simp only [correctMarks, if_pos hk0, if_pos htb, if_pos (fits_all hJ.2)]) | (simp only [correctMarks, if_pos hk0, if_pos htb, if_neg (show ¬ fitsAll t l xs = true by rw [fits_miss hx (by simpa using c61)]; simp)]; rfl)

end Go.Proofs.Ytaanabofedickaa
