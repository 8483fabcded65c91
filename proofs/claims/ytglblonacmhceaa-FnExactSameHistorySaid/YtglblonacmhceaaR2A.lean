/- Contracts of functions of the program, each by a walk of its text in the calculus V. -/
import Derived.Test.YtglblonacmhceaaC4
import Derived.Test.YtglblonacmhceaaD6
set_option linter.all false
set_option linter.unusedSimpArgs false
set_option linter.unnecessarySimpa false
set_option linter.unusedVariables false
namespace Go.Proofs.Ytglblonacmhceaa
open Go Go.V

theorem spec_l25Size_c {xs : List NV} {n : List UInt8} (hn : xs.length ≤ 1048576) :
    Pure Try.prog 68 [.sl 2 (xs.map encNV), .v (str n)] (.v (.int .i64 (lookup xs n))) := by
  refine Pure.intro Try.func68 rfl Try.ntmps68 rfl rfl (fun w => ?_)
  refine AC.seq ?_
  refine AC.region ?_
  refine AO.yld _ (Yld.assign rfl) rfl rfl rfl ?_
  refine AO.nil ?_
  refine AC.seq ?_
  refine AC.seq ?_
  refine AC.region ?_
  refine AO.yld _ (Yld.assign rfl) rfl rfl rfl ?_
  refine AO.nil ?_
  refine AC.block ?_
  refine AC.loopC [(0, _), (1, _)] [] (fun (k : Nat) => [(5, .p (.v (.int .i64 (k : Int))))]) (fun (k : Nat) => []) (fun (k : Nat) => k ≤ xs.length ∧ anyTo (fun x : NV => decide (x.name = n)) xs k = false) (fun (k : Nat) => xs.length - k) 0 ⟨rfl, rfl, trivial⟩ trivial ⟨rfl, trivial⟩ trivial ?_ (fun k hJ => ?_)
  · exact ⟨Nat.zero_le _, rfl⟩
  · -- round
    refine AC.seq ?_
    refine AC.seq ?_
    refine AC.region ?_
    refine AO.yld _ (Yld.move rfl) rfl rfl rfl ?_
    refine AO.yld _ (Yld.move rfl) rfl rfl rfl ?_
    refine AO.yld _ (Yld.len Try.underlying26 rfl rfl) rfl rfl rfl ?_
    refine AO.yld _ (Yld.int rfl rfl rfl) rfl rfl rfl ?_
    refine AO.nil ?_
    refine AC.cond _ rfl (fun c9 => ?_) (fun c9 => ?_)
    · -- c9 True
      have hk := lt_of_decM c9
      obtain ⟨x, hx⟩ := get_some hk
      have hrow := map_row (enc := encNV) hx
      refine AC.skip ?_
      refine AC.seq ?_
      refine AC.block ?_
      refine AC.seq ?_
      refine AC.region ?_
      refine AO.yld _ (Yld.move rfl) rfl rfl rfl ?_
      refine AO.yld _ (Yld.move rfl) rfl rfl rfl ?_
      refine AO.yld _ (Yld.indexSl Try.underlying26 Try.sizeOf105 rfl rfl hrow rfl) rfl rfl rfl ?_
      refine AO.yld _ (Yld.fieldAddr Try.underlying105 rfl rfl Try.sizeOf9 rfl rfl rfl) rfl rfl rfl ?_
      refine AO.yld _ (Yld.load Try.isAgg9 rfl rfl) rfl rfl rfl ?_
      refine AO.yld _ (Yld.move rfl) rfl rfl rfl ?_
      refine AO.yld _ (Yld.cmpStr rfl rfl rfl) rfl rfl rfl ?_
      refine AO.nil ?_
      refine AC.cond _ rfl (fun c18 => ?_) (fun c18 => ?_)
      · -- c18 True
        refine AC.seq ?_
        refine AC.region ?_
        refine AO.yld _ (Yld.move rfl) rfl rfl rfl ?_
        refine AO.yld _ (Yld.move rfl) rfl rfl rfl ?_
        refine AO.yld _ (Yld.indexSl Try.underlying26 Try.sizeOf105 rfl rfl hrow rfl) rfl rfl rfl ?_
        refine AO.yld _ (Yld.fieldAddr Try.underlying105 rfl rfl Try.sizeOf2 rfl rfl rfl) rfl rfl rfl ?_
        refine AO.yld _ (Yld.load Try.isAgg2 rfl rfl) rfl rfl rfl ?_
        refine AO.yld _ (Yld.assign rfl) rfl rfl rfl ?_
        refine AO.nil ?_
        refine Pure.ret Try.results68 (RVs.cons (RV.tmp rfl) RVs.nil) rfl ?_
        first
          | exact ci (lookup_hit hJ.2 hx (by simpa using c18))
          | exact ci (lookup_miss hJ.2)
      · -- c18 False
        refine AC.skip ?_
        refine AC.mark ?_
        refine AC.region ?_
        refine AO.yld _ (Yld.move rfl) rfl rfl rfl ?_
        refine AO.yld _ (Yld.add rfl rfl (by omega) (by omega)) rfl rfl rfl ?_
        refine AO.yld _ (Yld.assign rfl) rfl rfl rfl ?_
        refine AO.nil ?_
        refine AC.back ⟨k + 1, ?_, ?_, ⟨?_, trivial⟩, trivial, ⟨rfl, rfl, trivial⟩, trivial⟩
        · exact ⟨hk, by rw [anyTo_succ hx, hJ.2]; simpa using c18⟩
        · omega
        · rfl
    · -- c9 False
      obtain rfl : k = xs.length := by have := ge_of_decM c9; omega
      refine AC.exit rfl ?_
      refine AC.seq ?_
      refine AC.region ?_
      refine AO.yld _ (Yld.assign rfl) rfl rfl rfl ?_
      refine AO.nil ?_
      refine Pure.ret Try.results68 (RVs.cons (RV.tmp rfl) RVs.nil) rfl ?_
      first
        | exact ci (lookup_hit hJ.2 hx (by simpa using c18))
        | exact ci (lookup_miss hJ.2)

theorem impl_sizeOf_c {xs : List NV} {n : List UInt8} (hn : xs.length ≤ 1048576) :
    Pure Try.prog 73 [.sl 2 (xs.map encNV), .v (str n)] (.v (.int .i64 (lookup xs n))) := by
  refine Pure.intro Try.func73 rfl Try.ntmps73 rfl rfl (fun w => ?_)
  refine AC.seq ?_
  refine AC.region ?_
  refine AO.yld _ (Yld.assign rfl) rfl rfl rfl ?_
  refine AO.nil ?_
  refine AC.seq ?_
  refine AC.seq ?_
  refine AC.region ?_
  refine AO.yld _ (Yld.move rfl) rfl rfl rfl ?_
  refine AO.yld _ (Yld.len Try.underlying26 rfl rfl) rfl rfl rfl ?_
  refine AO.yld _ (Yld.move rfl) rfl rfl rfl ?_
  refine AO.nil ?_
  refine AC.block ?_
  refine AC.loopC [(1, _), (7, _), (8, _)] [] (fun (k : Nat) => [(9, .p (.v (.int .i64 (k : Int))))]) (fun (k : Nat) => []) (fun (k : Nat) => k ≤ xs.length ∧ anyTo (fun x : NV => decide (x.name = n)) xs k = false) (fun (k : Nat) => xs.length - k) 0 ⟨rfl, rfl, rfl, trivial⟩ trivial ⟨rfl, trivial⟩ trivial ?_ (fun k hJ => ?_)
  · exact ⟨Nat.zero_le _, rfl⟩
  · -- round
    refine AC.seq ?_
    refine AC.region ?_
    refine AO.yld _ (Yld.int rfl rfl rfl) rfl rfl rfl ?_
    refine AO.nil ?_
    refine AC.seq ?_
    refine AC.cond _ rfl (fun c10 => ?_) (fun c10 => ?_)
    · -- c10 True
      have hk := lt_of_decM c10
      obtain ⟨x, hx⟩ := get_some hk
      have hrow := map_row (enc := encNV) hx
      refine AC.skip ?_
      refine AC.seq ?_
      refine AC.block ?_
      refine AC.seq ?_
      refine AC.region ?_
      refine AO.yld _ (Yld.indexSl Try.underlying26 Try.sizeOf105 rfl rfl hrow rfl) rfl rfl rfl ?_
      refine AO.yld _ (Yld.loadAgg Try.isAgg105 Try.sizeOf105 rfl rfl rfl rfl) rfl rfl rfl ?_
      refine AO.alloc 0 Try.zeroValue105 rfl rfl rfl ?_
      refine AO.store Try.sizeOf105 rfl rfl rfl rfl rfl rfl ?_
      refine AO.nil ?_
      refine AC.seq ?_
      refine AC.region ?_
      refine AO.yld _ (Yld.fieldAddr Try.underlying105 rfl rfl Try.sizeOf9 rfl rfl rfl) rfl rfl rfl ?_
      refine AO.yld _ (Yld.load Try.isAgg9 rfl rfl) rfl rfl rfl ?_
      refine AO.yld _ (Yld.move rfl) rfl rfl rfl ?_
      refine AO.yld _ (Yld.cmpStr rfl rfl rfl) rfl rfl rfl ?_
      refine AO.nil ?_
      refine AC.cond _ rfl (fun c16 => ?_) (fun c16 => ?_)
      · -- c16 True
        refine AC.seq ?_
        refine AC.region ?_
        refine AO.yld _ (Yld.fieldAddr Try.underlying105 rfl rfl Try.sizeOf2 rfl rfl rfl) rfl rfl rfl ?_
        refine AO.yld _ (Yld.load Try.isAgg2 rfl rfl) rfl rfl rfl ?_
        refine AO.yld _ (Yld.assign rfl) rfl rfl rfl ?_
        refine AO.nil ?_
        refine Pure.ret Try.results73 (RVs.cons (RV.tmp rfl) RVs.nil) rfl ?_
        first
          | exact ci (lookup_hit hJ.2 hx (by simpa using c16))
          | exact ci (lookup_miss hJ.2)
      · -- c16 False
        refine AC.skip ?_
        refine AC.mark ?_
        refine AC.region ?_
        refine AO.yld _ (Yld.add rfl rfl (by omega) (by omega)) rfl rfl rfl ?_
        refine AO.yld _ (Yld.move rfl) rfl rfl rfl ?_
        refine AO.nil ?_
        refine AC.back ⟨k + 1, ?_, ?_, ⟨?_, trivial⟩, trivial, ⟨rfl, rfl, rfl, trivial⟩, trivial⟩
        · exact ⟨hk, by rw [anyTo_succ hx, hJ.2]; simpa using c16⟩
        · omega
        · rfl
    · -- c10 False
      obtain rfl : k = xs.length := by have := ge_of_decM c10; omega
      refine AC.exit rfl ?_
      refine AC.seq ?_
      refine AC.region ?_
      refine AO.yld _ (Yld.assign rfl) rfl rfl rfl ?_
      refine AO.nil ?_
      refine Pure.ret Try.results73 (RVs.cons (RV.tmp rfl) RVs.nil) rfl ?_
      first
        | exact ci (lookup_hit hJ.2 hx (by simpa using c16))
        | exact ci (lookup_miss hJ.2)

theorem spec_l25Bandwidth_c {n : Int} :
    Pure Try.prog 67 [.v (.int .i64 n)] (.v (.bool (decide (1 ≤ n) && decide (n ≤ 100000)))) := by
  refine Pure.intro Try.func67 rfl Try.ntmps67 rfl rfl (fun w => ?_)
  refine AC.seq ?_
  refine AC.region ?_
  refine AO.yld _ (Yld.assign rfl) rfl rfl rfl ?_
  refine AO.nil ?_
  refine AC.seq ?_
  refine AC.region ?_
  refine AO.yld _ (Yld.move rfl) rfl rfl rfl ?_
  refine AO.yld _ (Yld.call rfl rfl Try.call77 rfl rfl rfl (spec_l00In_c) rfl) rfl rfl rfl ?_
  refine AO.yld _ (Yld.assign rfl) rfl rfl rfl ?_
  refine AO.nil ?_
  refine Pure.ret Try.results67 (RVs.cons (RV.tmp rfl) RVs.nil) rfl ?_
  first | rfl | (simp_all; done) | (simp_all; intros; omega) | grind

theorem spec_l25Load_c {s b : Int} (h1 : 0 ≤ s) (h2 : s ≤ 9000000000000) (h3 : 0 < b) (h4 : b ≤ 9000000000000) :
    Pure Try.prog 69 [.v (.int .i64 s), .v (.int .i64 b)] (.v (.int .i64 ((1000 * s + b - 1) / b))) := by
  refine Pure.intro Try.func69 rfl Try.ntmps69 rfl rfl (fun w => ?_)
  refine AC.seq ?_
  refine AC.region ?_
  refine AO.yld _ (Yld.assign rfl) rfl rfl rfl ?_
  refine AO.nil ?_
  refine AC.seq ?_
  refine AC.region ?_
  refine AO.yld _ (Yld.move rfl) rfl rfl rfl ?_
  refine AO.yld _ (Yld.mul rfl rfl (by omega) (by omega)) rfl rfl rfl ?_
  refine AO.yld _ (Yld.move rfl) rfl rfl rfl ?_
  refine AO.yld _ (Yld.add rfl rfl (by omega) (by omega)) rfl rfl rfl ?_
  refine AO.yld _ (Yld.sub rfl rfl (by omega) (by omega)) rfl rfl rfl ?_
  refine AO.yld _ (Yld.move rfl) rfl rfl rfl ?_
  refine AO.yld _ (Yld.quoP rfl rfl (by omega) (by omega) (by omega)) rfl rfl rfl ?_
  refine AO.yld _ (Yld.assign rfl) rfl rfl rfl ?_
  refine AO.nil ?_
  refine Pure.ret Try.results69 (RVs.cons (RV.tmp rfl) RVs.nil) rfl ?_
  exact ci (up_one h3 (by omega)).symm

theorem spec_LoadTime_c {xs : List NV} {n : List UInt8} {b : Int} (hn : xs.length ≤ 1048576) (hs : ∀ x ∈ xs, x.name.length ≤ 1048576) :
    Pure Try.prog 15 [.sl 2 (xs.map encNV), .v (str n), .v (.int .i64 b)] (.tup [.v (.int .i64 (loadTime xs n b).1), .v (.int .i64 (loadTime xs n b).2)]) := by
  refine Pure.intro Try.func15 rfl Try.ntmps15 rfl rfl (fun w => ?_)
  refine AC.seq ?_
  refine AC.region ?_
  refine AO.yld _ (Yld.assign rfl) rfl rfl rfl ?_
  refine AO.yld _ (Yld.assign rfl) rfl rfl rfl ?_
  refine AO.nil ?_
  refine AC.seq ?_
  refine AC.seq ?_
  refine AC.region ?_
  refine AO.yld _ (Yld.move rfl) rfl rfl rfl ?_
  refine AO.yld _ (Yld.call rfl rfl Try.call66 rfl rfl rfl (spec_l25Ok_c (by first | assumption | omega) (by assumption)) rfl) rfl rfl rfl ?_
  refine AO.yld _ (Yld.not rfl) rfl rfl rfl ?_
  refine AO.nil ?_
  refine AC.cond _ rfl (fun c11 => ?_) (fun c11 => ?_)
  · -- c11 True
    refine AC.seq ?_
    refine AC.region ?_
    refine AO.yld _ (Yld.assign rfl) rfl rfl rfl ?_
    refine AO.yld _ (Yld.assign rfl) rfl rfl rfl ?_
    refine AO.nil ?_
    refine Pure.retT Try.results15 (RVs.cons (RV.tmp rfl) (RVs.cons (RV.tmp rfl) RVs.nil)) rfl ?_
    first | (simp_all [loadTime]; done) | grind [loadTime]
  · -- c11 False
    have hl := lookup_lim (xs := xs) (by simpa using c11) n
    refine AC.skip ?_
    refine AC.seq ?_
    refine AC.seq ?_
    refine AC.region ?_
    refine AO.yld _ (Yld.move rfl) rfl rfl rfl ?_
    refine AO.yld _ (Yld.call rfl rfl Try.call67 rfl rfl rfl (spec_l25Bandwidth_c) rfl) rfl rfl rfl ?_
    refine AO.yld _ (Yld.not rfl) rfl rfl rfl ?_
    refine AO.nil ?_
    refine AC.cond _ rfl (fun c14 => ?_) (fun c14 => ?_)
    · -- c14 True
      refine AC.seq ?_
      refine AC.region ?_
      refine AO.yld _ (Yld.assign rfl) rfl rfl rfl ?_
      refine AO.yld _ (Yld.assign rfl) rfl rfl rfl ?_
      refine AO.nil ?_
      refine Pure.retT Try.results15 (RVs.cons (RV.tmp rfl) (RVs.cons (RV.tmp rfl) RVs.nil)) rfl ?_
      first | (simp_all [loadTime]; done) | grind [loadTime]
    · -- c14 False
      have hb : 1 ≤ b ∧ b ≤ 100000 := by simpa using c14
      refine AC.skip ?_
      refine AC.seq ?_
      refine AC.region ?_
      refine AO.yld _ (Yld.move rfl) rfl rfl rfl ?_
      refine AO.yld _ (Yld.move rfl) rfl rfl rfl ?_
      refine AO.yld _ (Yld.call rfl rfl Try.call68 rfl rfl rfl (spec_l25Size_c (by first | assumption | omega)) rfl) rfl rfl rfl ?_
      refine AO.yld _ (Yld.assign rfl) rfl rfl rfl ?_
      refine AO.nil ?_
      refine AC.seq ?_
      refine AC.seq ?_
      refine AC.region ?_
      refine AO.yld _ (Yld.move rfl) rfl rfl rfl ?_
      refine AO.yld _ (Yld.int rfl rfl rfl) rfl rfl rfl ?_
      refine AO.nil ?_
      refine AC.cond _ rfl (fun c19 => ?_) (fun c19 => ?_)
      · -- c19 True
        refine AC.seq ?_
        refine AC.region ?_
        refine AO.yld _ (Yld.assign rfl) rfl rfl rfl ?_
        refine AO.yld _ (Yld.assign rfl) rfl rfl rfl ?_
        refine AO.nil ?_
        refine Pure.retT Try.results15 (RVs.cons (RV.tmp rfl) (RVs.cons (RV.tmp rfl) RVs.nil)) rfl ?_
        first | (simp_all [loadTime]; done) | grind [loadTime]
      · -- c19 False
        refine AC.skip ?_
        refine AC.seq ?_
        refine AC.region ?_
        refine AO.yld _ (Yld.move rfl) rfl rfl rfl ?_
        refine AO.yld _ (Yld.move rfl) rfl rfl rfl ?_
        refine AO.yld _ (Yld.call rfl rfl Try.call69 rfl rfl rfl (spec_l25Load_c (by omega) (by omega) (by omega) (by omega)) rfl) rfl rfl rfl ?_
        refine AO.yld _ (Yld.assign rfl) rfl rfl rfl ?_
        refine AO.yld _ (Yld.assign rfl) rfl rfl rfl ?_
        refine AO.nil ?_
        refine Pure.retT Try.results15 (RVs.cons (RV.tmp rfl) (RVs.cons (RV.tmp rfl) RVs.nil)) rfl ?_
        first | (simp_all [loadTime]; done) | grind [loadTime]

theorem impl_LoadTime_c {xs : List NV} {n : List UInt8} {b : Int} (hn : xs.length ≤ 1048576) (hs : ∀ x ∈ xs, x.name.length ≤ 1048576) :
    Pure Try.prog 17 [.sl 2 (xs.map encNV), .v (str n), .v (.int .i64 b)] (.tup [.v (.int .i64 (loadTime xs n b).1), .v (.int .i64 (loadTime xs n b).2)]) := by
  refine Pure.intro Try.func17 rfl Try.ntmps17 rfl rfl (fun w => ?_)
  refine AC.seq ?_
  refine AC.region ?_
  refine AO.yld _ (Yld.assign rfl) rfl rfl rfl ?_
  refine AO.yld _ (Yld.assign rfl) rfl rfl rfl ?_
  refine AO.nil ?_
  refine AC.seq ?_
  refine AC.seq ?_
  refine AC.region ?_
  refine AO.yld _ (Yld.move rfl) rfl rfl rfl ?_
  refine AO.yld _ (Yld.call rfl rfl Try.call71 rfl rfl rfl (impl_ValidMedia_c (by first | assumption | omega) (by assumption)) rfl) rfl rfl rfl ?_
  refine AO.yld _ (Yld.not rfl) rfl rfl rfl ?_
  refine AO.nil ?_
  refine AC.cond _ rfl (fun c11 => ?_) (fun c11 => ?_)
  · -- c11 True
    refine AC.seq ?_
    refine AC.region ?_
    refine AO.yld _ (Yld.assign rfl) rfl rfl rfl ?_
    refine AO.yld _ (Yld.assign rfl) rfl rfl rfl ?_
    refine AO.nil ?_
    refine Pure.retT Try.results17 (RVs.cons (RV.tmp rfl) (RVs.cons (RV.tmp rfl) RVs.nil)) rfl ?_
    first | (simp_all [loadTime]; done) | grind [loadTime]
  · -- c11 False
    have hl := lookup_lim (xs := xs) (by simpa using c11) n
    refine AC.skip ?_
    refine AC.seq ?_
    refine AC.seq ?_
    refine AC.region ?_
    refine AO.yld _ (Yld.move rfl) rfl rfl rfl ?_
    refine AO.yld _ (Yld.call rfl rfl Try.call72 rfl rfl rfl (impl_within_c) rfl) rfl rfl rfl ?_
    refine AO.yld _ (Yld.not rfl) rfl rfl rfl ?_
    refine AO.nil ?_
    refine AC.cond _ rfl (fun c14 => ?_) (fun c14 => ?_)
    · -- c14 True
      refine AC.seq ?_
      refine AC.region ?_
      refine AO.yld _ (Yld.assign rfl) rfl rfl rfl ?_
      refine AO.yld _ (Yld.assign rfl) rfl rfl rfl ?_
      refine AO.nil ?_
      refine Pure.retT Try.results17 (RVs.cons (RV.tmp rfl) (RVs.cons (RV.tmp rfl) RVs.nil)) rfl ?_
      first | (simp_all [loadTime]; done) | grind [loadTime]
    · -- c14 False
      have hb : 1 ≤ b ∧ b ≤ 100000 := by simpa using c14
      refine AC.skip ?_
      refine AC.seq ?_
      refine AC.region ?_
      refine AO.yld _ (Yld.move rfl) rfl rfl rfl ?_
      refine AO.yld _ (Yld.move rfl) rfl rfl rfl ?_
      refine AO.yld _ (Yld.call rfl rfl Try.call73 rfl rfl rfl (impl_sizeOf_c (by first | assumption | omega)) rfl) rfl rfl rfl ?_
      refine AO.yld _ (Yld.assign rfl) rfl rfl rfl ?_
      refine AO.nil ?_
      refine AC.seq ?_
      refine AC.seq ?_
      refine AC.region ?_
      refine AO.yld _ (Yld.move rfl) rfl rfl rfl ?_
      refine AO.yld _ (Yld.int rfl rfl rfl) rfl rfl rfl ?_
      refine AO.nil ?_
      refine AC.cond _ rfl (fun c19 => ?_) (fun c19 => ?_)
      · -- c19 True
        refine AC.seq ?_
        refine AC.region ?_
        refine AO.yld _ (Yld.assign rfl) rfl rfl rfl ?_
        refine AO.yld _ (Yld.assign rfl) rfl rfl rfl ?_
        refine AO.nil ?_
        refine Pure.retT Try.results17 (RVs.cons (RV.tmp rfl) (RVs.cons (RV.tmp rfl) RVs.nil)) rfl ?_
        first | (simp_all [loadTime]; done) | grind [loadTime]
      · -- c19 False
        refine AC.skip ?_
        refine AC.seq ?_
        refine AC.region ?_
        refine AO.yld _ (Yld.move rfl) rfl rfl rfl ?_
        refine AO.yld _ (Yld.mul rfl rfl (by omega) (by omega)) rfl rfl rfl ?_
        refine AO.yld _ (Yld.move rfl) rfl rfl rfl ?_
        refine AO.yld _ (Yld.call rfl rfl Try.call74 rfl rfl rfl (impl_quotientUp_c (by omega) (by omega) (by omega)) rfl) rfl rfl rfl ?_
        refine AO.yld _ (Yld.assign rfl) rfl rfl rfl ?_
        refine AO.yld _ (Yld.assign rfl) rfl rfl rfl ?_
        refine AO.nil ?_
        refine Pure.retT Try.results17 (RVs.cons (RV.tmp rfl) (RVs.cons (RV.tmp rfl) RVs.nil)) rfl ?_
        first | (simp_all [loadTime]; done) | grind [loadTime]

theorem spec_DueDay_c {xs : List Session} {l : Int} (hn : xs.length ≤ 1048576) :
    Pure Try.prog 20 [.sl 4 (xs.map encSession), .v (.int .i64 l)] (.tup [.v (.int .i64 (dueDay xs l).1), .v (.int .i64 (dueDay xs l).2)]) := by
  refine Pure.intro Try.func20 rfl Try.ntmps20 rfl rfl (fun w => ?_)
  refine AC.seq ?_
  refine AC.region ?_
  refine AO.yld _ (Yld.assign rfl) rfl rfl rfl ?_
  refine AO.yld _ (Yld.assign rfl) rfl rfl rfl ?_
  refine AO.nil ?_
  refine AC.seq ?_
  refine AC.seq ?_
  refine AC.region ?_
  refine AO.yld _ (Yld.move rfl) rfl rfl rfl ?_
  refine AO.yld _ (Yld.call rfl rfl Try.call76 rfl rfl rfl (spec_l28Ok_c (by first | assumption | omega)) rfl) rfl rfl rfl ?_
  refine AO.yld _ (Yld.not rfl) rfl rfl rfl ?_
  refine AO.nil ?_
  refine AC.cond _ rfl (fun c11 => ?_) (fun c11 => ?_)
  · -- c11 True
    refine AC.seq ?_
    refine AC.region ?_
    refine AO.yld _ (Yld.assign rfl) rfl rfl rfl ?_
    refine AO.yld _ (Yld.assign rfl) rfl rfl rfl ?_
    refine AO.nil ?_
    refine Pure.retT Try.results20 (RVs.cons (RV.tmp rfl) (RVs.cons (RV.tmp rfl) RVs.nil)) rfl ?_
    first | (simp_all [dueDay]; done) | grind [dueDay]
  · -- c11 False
    have hok : okSessions xs = true := by simpa using c11
    have hln := sessions_len hok
    obtain ⟨x, hx⟩ := get_some (xs := xs) (k := xs.length - 1) (by omega)
    have hrow := map_row (enc := encSession) hx
    have hl1 := session_lim (sessions_at hok hx)
    have hla := lastS_eq hx
    have hdn := driftTo_nonneg xs xs.length
    refine AC.skip ?_
    refine AC.seq ?_
    refine AC.seq ?_
    refine AC.region ?_
    refine AO.yld _ (Yld.move rfl) rfl rfl rfl ?_
    refine AO.yld _ (Yld.call rfl rfl Try.call77 rfl rfl rfl (spec_l00In_c) rfl) rfl rfl rfl ?_
    refine AO.yld _ (Yld.not rfl) rfl rfl rfl ?_
    refine AO.nil ?_
    refine AC.cond _ rfl (fun c14 => ?_) (fun c14 => ?_)
    · -- c14 True
      refine AC.seq ?_
      refine AC.region ?_
      refine AO.yld _ (Yld.assign rfl) rfl rfl rfl ?_
      refine AO.yld _ (Yld.assign rfl) rfl rfl rfl ?_
      refine AO.nil ?_
      refine Pure.retT Try.results20 (RVs.cons (RV.tmp rfl) (RVs.cons (RV.tmp rfl) RVs.nil)) rfl ?_
      first | (simp_all [dueDay]; done) | grind [dueDay]
    · -- c14 False
      have hb : 0 ≤ l ∧ l ≤ 180000 := by simpa using c14
      refine AC.skip ?_
      refine AC.seq ?_
      refine AC.region ?_
      refine AO.yld _ (Yld.move rfl) rfl rfl rfl ?_
      refine AO.yld _ (Yld.move rfl) rfl rfl rfl ?_
      refine AO.yld _ (Yld.len Try.underlying33 rfl rfl) rfl rfl rfl ?_
      refine AO.yld _ (Yld.sub rfl rfl (by first | omega | (simp only [List.length_map] at *; omega)) (by first | omega | (simp only [List.length_map] at *; omega))) rfl rfl rfl ?_
      refine AO.yld _ (Yld.indexSl Try.underlying33 Try.sizeOf61 rfl rfl hrow (by simp only [List.length_map]; omega)) rfl rfl rfl ?_
      refine AO.yld _ (Yld.loadAgg Try.isAgg61 Try.sizeOf61 rfl rfl rfl rfl) rfl rfl rfl ?_
      refine AO.alloc 0 Try.zeroValue61 rfl rfl rfl ?_
      refine AO.store Try.sizeOf61 rfl rfl rfl rfl rfl rfl ?_
      refine AO.nil ?_
      refine AC.seq ?_
      refine AC.seq ?_
      refine AC.region ?_
      refine AO.yld _ (Yld.fieldAddr Try.underlying61 rfl rfl Try.sizeOf2 rfl rfl rfl) rfl rfl rfl ?_
      refine AO.yld _ (Yld.load Try.isAgg2 rfl rfl) rfl rfl rfl ?_
      refine AO.yld _ (Yld.move rfl) rfl rfl rfl ?_
      refine AO.yld _ (Yld.int rfl rfl rfl) rfl rfl rfl ?_
      refine AO.nil ?_
      refine AC.cond _ rfl (fun c24 => ?_) (fun c24 => ?_)
      · -- c24 True
        refine AC.seq ?_
        refine AC.region ?_
        refine AO.yld _ (Yld.fieldAddr Try.underlying61 rfl rfl Try.sizeOf2 rfl rfl rfl) rfl rfl rfl ?_
        refine AO.yld _ (Yld.load Try.isAgg2 rfl rfl) rfl rfl rfl ?_
        refine AO.yld _ (Yld.assign rfl) rfl rfl rfl ?_
        refine AO.yld _ (Yld.assign rfl) rfl rfl rfl ?_
        refine AO.nil ?_
        refine Pure.retT Try.results20 (RVs.cons (RV.tmp rfl) (RVs.cons (RV.tmp rfl) RVs.nil)) rfl ?_
        first | (simp_all [dueDay]; done) | grind [dueDay]
      · -- c24 False
        refine AC.skip ?_
        refine AC.seq ?_
        refine AC.region ?_
        refine AO.yld _ (Yld.move rfl) rfl rfl rfl ?_
        refine AO.yld _ (Yld.call rfl rfl Try.call78 rfl rfl rfl (spec_l28Drift_c (by omega) hok) rfl) rfl rfl rfl ?_
        refine AO.yld _ (Yld.assign rfl) rfl rfl rfl ?_
        refine AO.nil ?_
        refine AC.seq ?_
        refine AC.seq ?_
        refine AC.region ?_
        refine AO.yld _ (Yld.move rfl) rfl rfl rfl ?_
        refine AO.yld _ (Yld.int rfl rfl rfl) rfl rfl rfl ?_
        refine AO.nil ?_
        refine AC.cond _ rfl (fun c30 => ?_) (fun c30 => ?_)
        · -- c30 True
          refine AC.seq ?_
          refine AC.region ?_
          refine AO.yld _ (Yld.assign rfl) rfl rfl rfl ?_
          refine AO.yld _ (Yld.assign rfl) rfl rfl rfl ?_
          refine AO.nil ?_
          refine Pure.retT Try.results20 (RVs.cons (RV.tmp rfl) (RVs.cons (RV.tmp rfl) RVs.nil)) rfl ?_
          first | (simp_all [dueDay]; done) | grind [dueDay]
        · -- c30 False
          have hdp : driftTo xs xs.length ≠ 0 := by simpa using c30
          have hgt : ¬ x.error > l := by simpa using c24
          have hq := tdiv_small (a := l - x.error) (b := driftTo xs xs.length) (by omega) (by omega)
          refine AC.skip ?_
          refine AC.seq ?_
          refine AC.draw (by kernel_rfl) (by kernel_rfl) ?_
          refine AO.yld _ (Yld.fieldAddr Try.underlying61 rfl rfl Try.sizeOf2 rfl rfl rfl) rfl rfl rfl ?_
          refine AO.yld _ (Yld.load Try.isAgg2 rfl rfl) rfl rfl rfl ?_
          refine AO.yld _ (Yld.move rfl) rfl rfl rfl ?_
          refine AO.yld _ (Yld.fieldAddr Try.underlying61 rfl rfl Try.sizeOf2 rfl rfl rfl) rfl rfl rfl ?_
          refine AO.yld _ (Yld.load Try.isAgg2 rfl rfl) rfl rfl rfl ?_
          refine AO.yld _ (Yld.sub rfl rfl (by first | omega | (simp only [List.length_map] at *; omega)) (by first | omega | (simp only [List.length_map] at *; omega))) rfl rfl rfl ?_
          refine AO.yld _ (Yld.move rfl) rfl rfl rfl ?_
          refine AO.yld _ (Yld.quoP rfl rfl (by omega) (by omega) (by omega)) rfl rfl rfl ?_
          refine AO.yld _ (Yld.add rfl rfl (by first | omega | (simp only [List.length_map] at *; omega)) (by first | omega | (simp only [List.length_map] at *; omega))) rfl rfl rfl ?_
          refine AO.yld _ (Yld.add rfl rfl (by first | omega | (simp only [List.length_map] at *; omega)) (by first | omega | (simp only [List.length_map] at *; omega))) rfl rfl rfl ?_
          refine AO.yld _ (Yld.assign rfl) rfl rfl rfl ?_
          refine AO.nil ?_
          refine AC.seq ?_
          refine AC.seq ?_
          refine AC.region ?_
          refine AO.yld _ (Yld.move rfl) rfl rfl rfl ?_
          refine AO.yld _ (Yld.int rfl rfl rfl) rfl rfl rfl ?_
          refine AO.nil ?_
          refine AC.cond _ rfl (fun c42 => ?_) (fun c42 => ?_)
          · -- c42 True
            refine AC.seq ?_
            refine AC.region ?_
            refine AO.yld _ (Yld.assign rfl) rfl rfl rfl ?_
            refine AO.yld _ (Yld.assign rfl) rfl rfl rfl ?_
            refine AO.nil ?_
            refine Pure.retT Try.results20 (RVs.cons (RV.tmp rfl) (RVs.cons (RV.tmp rfl) RVs.nil)) rfl ?_
            first | (simp_all [dueDay]; done) | grind [dueDay]
          · -- c42 False
            refine AC.skip ?_
            refine AC.seq ?_
            refine AC.region ?_
            refine AO.yld _ (Yld.move rfl) rfl rfl rfl ?_
            refine AO.yld _ (Yld.assign rfl) rfl rfl rfl ?_
            refine AO.yld _ (Yld.assign rfl) rfl rfl rfl ?_
            refine AO.nil ?_
            refine Pure.retT Try.results20 (RVs.cons (RV.tmp rfl) (RVs.cons (RV.tmp rfl) RVs.nil)) rfl ?_
            first | (simp_all [dueDay]; done) | grind [dueDay]

theorem impl_DueDay_c {xs : List Session} {l : Int} (hn : xs.length ≤ 1048576) :
    Pure Try.prog 22 [.sl 4 (xs.map encSession), .v (.int .i64 l)] (.tup [.v (.int .i64 (dueDay xs l).1), .v (.int .i64 (dueDay xs l).2)]) := by
  refine Pure.intro Try.func22 rfl Try.ntmps22 rfl rfl (fun w => ?_)
  refine AC.seq ?_
  refine AC.region ?_
  refine AO.yld _ (Yld.assign rfl) rfl rfl rfl ?_
  refine AO.yld _ (Yld.assign rfl) rfl rfl rfl ?_
  refine AO.nil ?_
  refine AC.seq ?_
  refine AC.seq ?_
  refine AC.region ?_
  refine AO.yld _ (Yld.move rfl) rfl rfl rfl ?_
  refine AO.yld _ (Yld.call rfl rfl Try.call80 rfl rfl rfl (impl_ValidSessions_c (by first | assumption | omega)) rfl) rfl rfl rfl ?_
  refine AO.yld _ (Yld.not rfl) rfl rfl rfl ?_
  refine AO.nil ?_
  refine AC.cond _ rfl (fun c11 => ?_) (fun c11 => ?_)
  · -- c11 True
    refine AC.seq ?_
    refine AC.region ?_
    refine AO.yld _ (Yld.assign rfl) rfl rfl rfl ?_
    refine AO.yld _ (Yld.assign rfl) rfl rfl rfl ?_
    refine AO.nil ?_
    refine Pure.retT Try.results22 (RVs.cons (RV.tmp rfl) (RVs.cons (RV.tmp rfl) RVs.nil)) rfl ?_
    first | (simp_all [dueDay]; done) | grind [dueDay]
  · -- c11 False
    have hok : okSessions xs = true := by simpa using c11
    have hln := sessions_len hok
    obtain ⟨x, hx⟩ := get_some (xs := xs) (k := xs.length - 1) (by omega)
    have hrow := map_row (enc := encSession) hx
    have hl1 := session_lim (sessions_at hok hx)
    have hla := lastS_eq hx
    have hdn := driftTo_nonneg xs xs.length
    refine AC.skip ?_
    refine AC.seq ?_
    refine AC.seq ?_
    refine AC.region ?_
    refine AO.yld _ (Yld.move rfl) rfl rfl rfl ?_
    refine AO.yld _ (Yld.call rfl rfl Try.call72 rfl rfl rfl (impl_within_c) rfl) rfl rfl rfl ?_
    refine AO.yld _ (Yld.not rfl) rfl rfl rfl ?_
    refine AO.nil ?_
    refine AC.cond _ rfl (fun c14 => ?_) (fun c14 => ?_)
    · -- c14 True
      refine AC.seq ?_
      refine AC.region ?_
      refine AO.yld _ (Yld.assign rfl) rfl rfl rfl ?_
      refine AO.yld _ (Yld.assign rfl) rfl rfl rfl ?_
      refine AO.nil ?_
      refine Pure.retT Try.results22 (RVs.cons (RV.tmp rfl) (RVs.cons (RV.tmp rfl) RVs.nil)) rfl ?_
      first | (simp_all [dueDay]; done) | grind [dueDay]
    · -- c14 False
      have hb : 0 ≤ l ∧ l ≤ 180000 := by simpa using c14
      refine AC.skip ?_
      refine AC.seq ?_
      apply AC.drawAny ⟨[(0, _), (1, _), (4, _), (5, _), (6, _), (7, _), (9, _), (10, _), (11, _), (12, _), (13, _), (14, _), (15, _), (16, _), (17, _), (18, _), (19, _), (20, _), (21, _), (22, _)], [(0, _)]⟩ (by kernel_rfl)
      · -- orders
        refine AN.take 0 rfl (by kernel_rfl) (by kernel_rfl) (by kernel_rfl) rfl rfl rfl (YldA.move rfl) ?_
        refine AN.take 1 rfl (by kernel_rfl) (by kernel_rfl) (by kernel_rfl) rfl rfl rfl (YldA.move rfl) ?_
        refine AN.take 6 rfl (by kernel_rfl) (by kernel_rfl) (by kernel_rfl) rfl rfl rfl (YldA.move rfl) ?_
        refine AN.all (rs := [2, 7, 8]) (by kernel_rfl) rfl ⟨?_, ?_, ?_, trivial⟩
        · refine Stp.eff rfl rfl (Eff.yld (Yld.len Try.underlying33 rfl rfl) rfl rfl) ?_
          refine AN.take 3 rfl (by kernel_rfl) (by kernel_rfl) (by kernel_rfl) rfl rfl rfl (YldA.sub rfl rfl (by first | omega | (simp only [List.length_map] at *; omega)) (by first | omega | (simp only [List.length_map] at *; omega))) ?_
          refine AN.take 4 rfl (by kernel_rfl) (by kernel_rfl) (by kernel_rfl) rfl rfl rfl (YldA.indexSl Try.underlying33 Try.sizeOf61 rfl rfl hrow (by simp only [List.length_map]; omega)) ?_
          refine AN.all (rs := [5, 7, 8]) (by kernel_rfl) rfl ⟨?_, ?_, ?_, trivial⟩
          · refine Stp.eff rfl rfl (Eff.yld (Yld.loadAgg Try.isAgg61 Try.sizeOf61 rfl rfl rfl rfl) rfl rfl) ?_
            refine AN.all (rs := [7, 8]) (by kernel_rfl) rfl ⟨?_, ?_, trivial⟩
            · refine Stp.eff rfl rfl (Eff.yld (Yld.call rfl rfl Try.call81 rfl rfl rfl (impl_driftPerDay_c (by omega) hok) rfl) rfl rfl) ?_
              refine AN.all (rs := [8]) (by kernel_rfl) rfl ⟨?_, trivial⟩
              refine Stp.eff rfl rfl (Eff.alloc 0 Try.zeroValue61 rfl rfl rfl) ?_
              refine AN.all (rs := [9]) (by kernel_rfl) rfl ⟨?_, trivial⟩
              refine Stp.eff rfl rfl (Eff.store Try.sizeOf61 rfl rfl rfl rfl rfl rfl) ?_
              refine AN.take 10 rfl (by kernel_rfl) (by kernel_rfl) (by kernel_rfl) rfl rfl rfl (YldA.assign rfl) ?_
              exact AN.done (by kernel_rfl) (Le.intro ⟨rfl, rfl, rfl, rfl, rfl, rfl, rfl, rfl, rfl, rfl, rfl, rfl, rfl, rfl, rfl, rfl, rfl, rfl, rfl, rfl, trivial⟩ ⟨rfl, trivial⟩)
            · refine Stp.eff rfl rfl (Eff.alloc 0 Try.zeroValue61 rfl rfl rfl) ?_
              refine AN.all (rs := [7]) (by kernel_rfl) rfl ⟨?_, trivial⟩
              refine Stp.eff rfl rfl (Eff.yld (Yld.call rfl rfl Try.call81 rfl rfl rfl (impl_driftPerDay_c (by omega) hok) rfl) rfl rfl) ?_
              refine AN.all (rs := [9]) (by kernel_rfl) rfl ⟨?_, trivial⟩
              refine Stp.eff rfl rfl (Eff.store Try.sizeOf61 rfl rfl rfl rfl rfl rfl) ?_
              refine AN.take 10 rfl (by kernel_rfl) (by kernel_rfl) (by kernel_rfl) rfl rfl rfl (YldA.assign rfl) ?_
              exact AN.done (by kernel_rfl) (Le.intro ⟨rfl, rfl, rfl, rfl, rfl, rfl, rfl, rfl, rfl, rfl, rfl, rfl, rfl, rfl, rfl, rfl, rfl, rfl, rfl, rfl, trivial⟩ ⟨rfl, trivial⟩)
          · refine Stp.eff rfl rfl (Eff.yld (Yld.call rfl rfl Try.call81 rfl rfl rfl (impl_driftPerDay_c (by omega) hok) rfl) rfl rfl) ?_
            refine AN.all (rs := [5, 8]) (by kernel_rfl) rfl ⟨?_, ?_, trivial⟩
            · refine Stp.eff rfl rfl (Eff.yld (Yld.loadAgg Try.isAgg61 Try.sizeOf61 rfl rfl rfl rfl) rfl rfl) ?_
              refine AN.all (rs := [8]) (by kernel_rfl) rfl ⟨?_, trivial⟩
              refine Stp.eff rfl rfl (Eff.alloc 0 Try.zeroValue61 rfl rfl rfl) ?_
              refine AN.all (rs := [9]) (by kernel_rfl) rfl ⟨?_, trivial⟩
              refine Stp.eff rfl rfl (Eff.store Try.sizeOf61 rfl rfl rfl rfl rfl rfl) ?_
              refine AN.take 10 rfl (by kernel_rfl) (by kernel_rfl) (by kernel_rfl) rfl rfl rfl (YldA.assign rfl) ?_
              exact AN.done (by kernel_rfl) (Le.intro ⟨rfl, rfl, rfl, rfl, rfl, rfl, rfl, rfl, rfl, rfl, rfl, rfl, rfl, rfl, rfl, rfl, rfl, rfl, rfl, rfl, trivial⟩ ⟨rfl, trivial⟩)
            · refine Stp.eff rfl rfl (Eff.alloc 0 Try.zeroValue61 rfl rfl rfl) ?_
              refine AN.all (rs := [5]) (by kernel_rfl) rfl ⟨?_, trivial⟩
              refine Stp.eff rfl rfl (Eff.yld (Yld.loadAgg Try.isAgg61 Try.sizeOf61 rfl rfl rfl rfl) rfl rfl) ?_
              refine AN.all (rs := [9]) (by kernel_rfl) rfl ⟨?_, trivial⟩
              refine Stp.eff rfl rfl (Eff.store Try.sizeOf61 rfl rfl rfl rfl rfl rfl) ?_
              refine AN.take 10 rfl (by kernel_rfl) (by kernel_rfl) (by kernel_rfl) rfl rfl rfl (YldA.assign rfl) ?_
              exact AN.done (by kernel_rfl) (Le.intro ⟨rfl, rfl, rfl, rfl, rfl, rfl, rfl, rfl, rfl, rfl, rfl, rfl, rfl, rfl, rfl, rfl, rfl, rfl, rfl, rfl, trivial⟩ ⟨rfl, trivial⟩)
          · refine Stp.eff rfl rfl (Eff.alloc 0 Try.zeroValue61 rfl rfl rfl) ?_
            refine AN.all (rs := [5, 7]) (by kernel_rfl) rfl ⟨?_, ?_, trivial⟩
            · refine Stp.eff rfl rfl (Eff.yld (Yld.loadAgg Try.isAgg61 Try.sizeOf61 rfl rfl rfl rfl) rfl rfl) ?_
              refine AN.all (rs := [7]) (by kernel_rfl) rfl ⟨?_, trivial⟩
              refine Stp.eff rfl rfl (Eff.yld (Yld.call rfl rfl Try.call81 rfl rfl rfl (impl_driftPerDay_c (by omega) hok) rfl) rfl rfl) ?_
              refine AN.all (rs := [9]) (by kernel_rfl) rfl ⟨?_, trivial⟩
              refine Stp.eff rfl rfl (Eff.store Try.sizeOf61 rfl rfl rfl rfl rfl rfl) ?_
              refine AN.take 10 rfl (by kernel_rfl) (by kernel_rfl) (by kernel_rfl) rfl rfl rfl (YldA.assign rfl) ?_
              exact AN.done (by kernel_rfl) (Le.intro ⟨rfl, rfl, rfl, rfl, rfl, rfl, rfl, rfl, rfl, rfl, rfl, rfl, rfl, rfl, rfl, rfl, rfl, rfl, rfl, rfl, trivial⟩ ⟨rfl, trivial⟩)
            · refine Stp.eff rfl rfl (Eff.yld (Yld.call rfl rfl Try.call81 rfl rfl rfl (impl_driftPerDay_c (by omega) hok) rfl) rfl rfl) ?_
              refine AN.all (rs := [5]) (by kernel_rfl) rfl ⟨?_, trivial⟩
              refine Stp.eff rfl rfl (Eff.yld (Yld.loadAgg Try.isAgg61 Try.sizeOf61 rfl rfl rfl rfl) rfl rfl) ?_
              refine AN.all (rs := [9]) (by kernel_rfl) rfl ⟨?_, trivial⟩
              refine Stp.eff rfl rfl (Eff.store Try.sizeOf61 rfl rfl rfl rfl rfl rfl) ?_
              refine AN.take 10 rfl (by kernel_rfl) (by kernel_rfl) (by kernel_rfl) rfl rfl rfl (YldA.assign rfl) ?_
              exact AN.done (by kernel_rfl) (Le.intro ⟨rfl, rfl, rfl, rfl, rfl, rfl, rfl, rfl, rfl, rfl, rfl, rfl, rfl, rfl, rfl, rfl, rfl, rfl, rfl, rfl, trivial⟩ ⟨rfl, trivial⟩)
        · refine Stp.eff rfl rfl (Eff.yld (Yld.call rfl rfl Try.call81 rfl rfl rfl (impl_driftPerDay_c (by omega) hok) rfl) rfl rfl) ?_
          refine AN.all (rs := [2, 8]) (by kernel_rfl) rfl ⟨?_, ?_, trivial⟩
          · refine Stp.eff rfl rfl (Eff.yld (Yld.len Try.underlying33 rfl rfl) rfl rfl) ?_
            refine AN.take 3 rfl (by kernel_rfl) (by kernel_rfl) (by kernel_rfl) rfl rfl rfl (YldA.sub rfl rfl (by first | omega | (simp only [List.length_map] at *; omega)) (by first | omega | (simp only [List.length_map] at *; omega))) ?_
            refine AN.take 4 rfl (by kernel_rfl) (by kernel_rfl) (by kernel_rfl) rfl rfl rfl (YldA.indexSl Try.underlying33 Try.sizeOf61 rfl rfl hrow (by simp only [List.length_map]; omega)) ?_
            refine AN.all (rs := [5, 8]) (by kernel_rfl) rfl ⟨?_, ?_, trivial⟩
            · refine Stp.eff rfl rfl (Eff.yld (Yld.loadAgg Try.isAgg61 Try.sizeOf61 rfl rfl rfl rfl) rfl rfl) ?_
              refine AN.all (rs := [8]) (by kernel_rfl) rfl ⟨?_, trivial⟩
              refine Stp.eff rfl rfl (Eff.alloc 0 Try.zeroValue61 rfl rfl rfl) ?_
              refine AN.all (rs := [9]) (by kernel_rfl) rfl ⟨?_, trivial⟩
              refine Stp.eff rfl rfl (Eff.store Try.sizeOf61 rfl rfl rfl rfl rfl rfl) ?_
              refine AN.take 10 rfl (by kernel_rfl) (by kernel_rfl) (by kernel_rfl) rfl rfl rfl (YldA.assign rfl) ?_
              exact AN.done (by kernel_rfl) (Le.intro ⟨rfl, rfl, rfl, rfl, rfl, rfl, rfl, rfl, rfl, rfl, rfl, rfl, rfl, rfl, rfl, rfl, rfl, rfl, rfl, rfl, trivial⟩ ⟨rfl, trivial⟩)
            · refine Stp.eff rfl rfl (Eff.alloc 0 Try.zeroValue61 rfl rfl rfl) ?_
              refine AN.all (rs := [5]) (by kernel_rfl) rfl ⟨?_, trivial⟩
              refine Stp.eff rfl rfl (Eff.yld (Yld.loadAgg Try.isAgg61 Try.sizeOf61 rfl rfl rfl rfl) rfl rfl) ?_
              refine AN.all (rs := [9]) (by kernel_rfl) rfl ⟨?_, trivial⟩
              refine Stp.eff rfl rfl (Eff.store Try.sizeOf61 rfl rfl rfl rfl rfl rfl) ?_
              refine AN.take 10 rfl (by kernel_rfl) (by kernel_rfl) (by kernel_rfl) rfl rfl rfl (YldA.assign rfl) ?_
              exact AN.done (by kernel_rfl) (Le.intro ⟨rfl, rfl, rfl, rfl, rfl, rfl, rfl, rfl, rfl, rfl, rfl, rfl, rfl, rfl, rfl, rfl, rfl, rfl, rfl, rfl, trivial⟩ ⟨rfl, trivial⟩)
          · refine Stp.eff rfl rfl (Eff.alloc 0 Try.zeroValue61 rfl rfl rfl) ?_
            refine AN.all (rs := [2]) (by kernel_rfl) rfl ⟨?_, trivial⟩
            refine Stp.eff rfl rfl (Eff.yld (Yld.len Try.underlying33 rfl rfl) rfl rfl) ?_
            refine AN.take 3 rfl (by kernel_rfl) (by kernel_rfl) (by kernel_rfl) rfl rfl rfl (YldA.sub rfl rfl (by first | omega | (simp only [List.length_map] at *; omega)) (by first | omega | (simp only [List.length_map] at *; omega))) ?_
            refine AN.take 4 rfl (by kernel_rfl) (by kernel_rfl) (by kernel_rfl) rfl rfl rfl (YldA.indexSl Try.underlying33 Try.sizeOf61 rfl rfl hrow (by simp only [List.length_map]; omega)) ?_
            refine AN.all (rs := [5]) (by kernel_rfl) rfl ⟨?_, trivial⟩
            refine Stp.eff rfl rfl (Eff.yld (Yld.loadAgg Try.isAgg61 Try.sizeOf61 rfl rfl rfl rfl) rfl rfl) ?_
            refine AN.all (rs := [9]) (by kernel_rfl) rfl ⟨?_, trivial⟩
            refine Stp.eff rfl rfl (Eff.store Try.sizeOf61 rfl rfl rfl rfl rfl rfl) ?_
            refine AN.take 10 rfl (by kernel_rfl) (by kernel_rfl) (by kernel_rfl) rfl rfl rfl (YldA.assign rfl) ?_
            exact AN.done (by kernel_rfl) (Le.intro ⟨rfl, rfl, rfl, rfl, rfl, rfl, rfl, rfl, rfl, rfl, rfl, rfl, rfl, rfl, rfl, rfl, rfl, rfl, rfl, rfl, trivial⟩ ⟨rfl, trivial⟩)
        · refine Stp.eff rfl rfl (Eff.alloc 0 Try.zeroValue61 rfl rfl rfl) ?_
          refine AN.all (rs := [2, 7]) (by kernel_rfl) rfl ⟨?_, ?_, trivial⟩
          · refine Stp.eff rfl rfl (Eff.yld (Yld.len Try.underlying33 rfl rfl) rfl rfl) ?_
            refine AN.take 3 rfl (by kernel_rfl) (by kernel_rfl) (by kernel_rfl) rfl rfl rfl (YldA.sub rfl rfl (by first | omega | (simp only [List.length_map] at *; omega)) (by first | omega | (simp only [List.length_map] at *; omega))) ?_
            refine AN.take 4 rfl (by kernel_rfl) (by kernel_rfl) (by kernel_rfl) rfl rfl rfl (YldA.indexSl Try.underlying33 Try.sizeOf61 rfl rfl hrow (by simp only [List.length_map]; omega)) ?_
            refine AN.all (rs := [5, 7]) (by kernel_rfl) rfl ⟨?_, ?_, trivial⟩
            · refine Stp.eff rfl rfl (Eff.yld (Yld.loadAgg Try.isAgg61 Try.sizeOf61 rfl rfl rfl rfl) rfl rfl) ?_
              refine AN.all (rs := [7]) (by kernel_rfl) rfl ⟨?_, trivial⟩
              refine Stp.eff rfl rfl (Eff.yld (Yld.call rfl rfl Try.call81 rfl rfl rfl (impl_driftPerDay_c (by omega) hok) rfl) rfl rfl) ?_
              refine AN.all (rs := [9]) (by kernel_rfl) rfl ⟨?_, trivial⟩
              refine Stp.eff rfl rfl (Eff.store Try.sizeOf61 rfl rfl rfl rfl rfl rfl) ?_
              refine AN.take 10 rfl (by kernel_rfl) (by kernel_rfl) (by kernel_rfl) rfl rfl rfl (YldA.assign rfl) ?_
              exact AN.done (by kernel_rfl) (Le.intro ⟨rfl, rfl, rfl, rfl, rfl, rfl, rfl, rfl, rfl, rfl, rfl, rfl, rfl, rfl, rfl, rfl, rfl, rfl, rfl, rfl, trivial⟩ ⟨rfl, trivial⟩)
            · refine Stp.eff rfl rfl (Eff.yld (Yld.call rfl rfl Try.call81 rfl rfl rfl (impl_driftPerDay_c (by omega) hok) rfl) rfl rfl) ?_
              refine AN.all (rs := [5]) (by kernel_rfl) rfl ⟨?_, trivial⟩
              refine Stp.eff rfl rfl (Eff.yld (Yld.loadAgg Try.isAgg61 Try.sizeOf61 rfl rfl rfl rfl) rfl rfl) ?_
              refine AN.all (rs := [9]) (by kernel_rfl) rfl ⟨?_, trivial⟩
              refine Stp.eff rfl rfl (Eff.store Try.sizeOf61 rfl rfl rfl rfl rfl rfl) ?_
              refine AN.take 10 rfl (by kernel_rfl) (by kernel_rfl) (by kernel_rfl) rfl rfl rfl (YldA.assign rfl) ?_
              exact AN.done (by kernel_rfl) (Le.intro ⟨rfl, rfl, rfl, rfl, rfl, rfl, rfl, rfl, rfl, rfl, rfl, rfl, rfl, rfl, rfl, rfl, rfl, rfl, rfl, rfl, trivial⟩ ⟨rfl, trivial⟩)
          · refine Stp.eff rfl rfl (Eff.yld (Yld.call rfl rfl Try.call81 rfl rfl rfl (impl_driftPerDay_c (by omega) hok) rfl) rfl rfl) ?_
            refine AN.all (rs := [2]) (by kernel_rfl) rfl ⟨?_, trivial⟩
            refine Stp.eff rfl rfl (Eff.yld (Yld.len Try.underlying33 rfl rfl) rfl rfl) ?_
            refine AN.take 3 rfl (by kernel_rfl) (by kernel_rfl) (by kernel_rfl) rfl rfl rfl (YldA.sub rfl rfl (by first | omega | (simp only [List.length_map] at *; omega)) (by first | omega | (simp only [List.length_map] at *; omega))) ?_
            refine AN.take 4 rfl (by kernel_rfl) (by kernel_rfl) (by kernel_rfl) rfl rfl rfl (YldA.indexSl Try.underlying33 Try.sizeOf61 rfl rfl hrow (by simp only [List.length_map]; omega)) ?_
            refine AN.all (rs := [5]) (by kernel_rfl) rfl ⟨?_, trivial⟩
            refine Stp.eff rfl rfl (Eff.yld (Yld.loadAgg Try.isAgg61 Try.sizeOf61 rfl rfl rfl rfl) rfl rfl) ?_
            refine AN.all (rs := [9]) (by kernel_rfl) rfl ⟨?_, trivial⟩
            refine Stp.eff rfl rfl (Eff.store Try.sizeOf61 rfl rfl rfl rfl rfl rfl) ?_
            refine AN.take 10 rfl (by kernel_rfl) (by kernel_rfl) (by kernel_rfl) rfl rfl rfl (YldA.assign rfl) ?_
            exact AN.done (by kernel_rfl) (Le.intro ⟨rfl, rfl, rfl, rfl, rfl, rfl, rfl, rfl, rfl, rfl, rfl, rfl, rfl, rfl, rfl, rfl, rfl, rfl, rfl, rfl, trivial⟩ ⟨rfl, trivial⟩)
      · -- behind
        refine AC.seq ?_
        refine AC.seq ?_
        refine AC.region ?_
        refine AO.yld _ (Yld.fieldAddr Try.underlying61 rfl rfl Try.sizeOf2 rfl rfl rfl) rfl rfl rfl ?_
        refine AO.yld _ (Yld.load Try.isAgg2 rfl rfl) rfl rfl rfl ?_
        refine AO.yld _ (Yld.move rfl) rfl rfl rfl ?_
        refine AO.yld _ (Yld.int rfl rfl rfl) rfl rfl rfl ?_
        refine AO.nil ?_
        refine AC.cond _ rfl (fun c26 => ?_) (fun c26 => ?_)
        · -- c26 True
          refine AC.seq ?_
          refine AC.region ?_
          refine AO.yld _ (Yld.fieldAddr Try.underlying61 rfl rfl Try.sizeOf2 rfl rfl rfl) rfl rfl rfl ?_
          refine AO.yld _ (Yld.load Try.isAgg2 rfl rfl) rfl rfl rfl ?_
          refine AO.yld _ (Yld.assign rfl) rfl rfl rfl ?_
          refine AO.yld _ (Yld.assign rfl) rfl rfl rfl ?_
          refine AO.nil ?_
          refine Pure.retT Try.results22 (RVs.cons (RV.tmp rfl) (RVs.cons (RV.tmp rfl) RVs.nil)) rfl ?_
          first | (simp_all [dueDay]; done) | grind [dueDay]
        · -- c26 False
          refine AC.skip ?_
          refine AC.seq ?_
          refine AC.seq ?_
          refine AC.region ?_
          refine AO.yld _ (Yld.move rfl) rfl rfl rfl ?_
          refine AO.yld _ (Yld.int rfl rfl rfl) rfl rfl rfl ?_
          refine AO.nil ?_
          refine AC.cond _ rfl (fun c30 => ?_) (fun c30 => ?_)
          · -- c30 True
            refine AC.seq ?_
            refine AC.region ?_
            refine AO.yld _ (Yld.assign rfl) rfl rfl rfl ?_
            refine AO.yld _ (Yld.assign rfl) rfl rfl rfl ?_
            refine AO.nil ?_
            refine Pure.retT Try.results22 (RVs.cons (RV.tmp rfl) (RVs.cons (RV.tmp rfl) RVs.nil)) rfl ?_
            first | (simp_all [dueDay]; done) | grind [dueDay]
          · -- c30 False
            have hdp : driftTo xs xs.length ≠ 0 := by simpa using c30
            have hgt : ¬ x.error > l := by simpa using c26
            have hq := tdiv_small (a := l - x.error) (b := driftTo xs xs.length) (by omega) (by omega)
            refine AC.skip ?_
            refine AC.seq ?_
            refine AC.draw (by kernel_rfl) (by kernel_rfl) ?_
            refine AO.yld _ (Yld.fieldAddr Try.underlying61 rfl rfl Try.sizeOf2 rfl rfl rfl) rfl rfl rfl ?_
            refine AO.yld _ (Yld.load Try.isAgg2 rfl rfl) rfl rfl rfl ?_
            refine AO.yld _ (Yld.move rfl) rfl rfl rfl ?_
            refine AO.yld _ (Yld.fieldAddr Try.underlying61 rfl rfl Try.sizeOf2 rfl rfl rfl) rfl rfl rfl ?_
            refine AO.yld _ (Yld.load Try.isAgg2 rfl rfl) rfl rfl rfl ?_
            refine AO.yld _ (Yld.sub rfl rfl (by first | omega | (simp only [List.length_map] at *; omega)) (by first | omega | (simp only [List.length_map] at *; omega))) rfl rfl rfl ?_
            refine AO.yld _ (Yld.move rfl) rfl rfl rfl ?_
            refine AO.yld _ (Yld.quoP rfl rfl (by omega) (by omega) (by omega)) rfl rfl rfl ?_
            refine AO.yld _ (Yld.add rfl rfl (by first | omega | (simp only [List.length_map] at *; omega)) (by first | omega | (simp only [List.length_map] at *; omega))) rfl rfl rfl ?_
            refine AO.yld _ (Yld.add rfl rfl (by first | omega | (simp only [List.length_map] at *; omega)) (by first | omega | (simp only [List.length_map] at *; omega))) rfl rfl rfl ?_
            refine AO.yld _ (Yld.assign rfl) rfl rfl rfl ?_
            refine AO.nil ?_
            refine AC.seq ?_
            refine AC.seq ?_
            refine AC.region ?_
            refine AO.yld _ (Yld.move rfl) rfl rfl rfl ?_
            refine AO.yld _ (Yld.int rfl rfl rfl) rfl rfl rfl ?_
            refine AO.nil ?_
            refine AC.cond _ rfl (fun c42 => ?_) (fun c42 => ?_)
            · -- c42 True
              refine AC.seq ?_
              refine AC.region ?_
              refine AO.yld _ (Yld.assign rfl) rfl rfl rfl ?_
              refine AO.yld _ (Yld.assign rfl) rfl rfl rfl ?_
              refine AO.nil ?_
              refine Pure.retT Try.results22 (RVs.cons (RV.tmp rfl) (RVs.cons (RV.tmp rfl) RVs.nil)) rfl ?_
              first | (simp_all [dueDay]; done) | grind [dueDay]
            · -- c42 False
              refine AC.skip ?_
              refine AC.seq ?_
              refine AC.region ?_
              refine AO.yld _ (Yld.move rfl) rfl rfl rfl ?_
              refine AO.yld _ (Yld.assign rfl) rfl rfl rfl ?_
              refine AO.yld _ (Yld.assign rfl) rfl rfl rfl ?_
              refine AO.nil ?_
              refine Pure.retT Try.results22 (RVs.cons (RV.tmp rfl) (RVs.cons (RV.tmp rfl) RVs.nil)) rfl ?_
              first | (simp_all [dueDay]; done) | grind [dueDay]

theorem spec_l26Ask_c {xs : List Mach} (hn : xs.length ≤ 1048576) (hs : ∀ x ∈ xs, x.name.length ≤ 1048576) :
    Pure Try.prog 99 [.sl 3 (xs.map encMach)] (.v (.int .i64 (askMachines xs))) := by
  refine Pure.intro Try.func99 rfl Try.ntmps99 rfl rfl (fun w => ?_)
  refine AC.seq ?_
  refine AC.region ?_
  refine AO.yld _ (Yld.assign rfl) rfl rfl rfl ?_
  refine AO.nil ?_
  refine AC.seq ?_
  refine AC.seq ?_
  refine AC.region ?_
  refine AO.yld _ (Yld.move rfl) rfl rfl rfl ?_
  refine AO.yld _ (Yld.call rfl rfl Try.call152 rfl rfl rfl (spec_l26Ok_c (by first | assumption | omega) (by assumption)) rfl) rfl rfl rfl ?_
  refine AO.yld _ (Yld.not rfl) rfl rfl rfl ?_
  refine AO.nil ?_
  refine AC.cond _ rfl (fun c5 => ?_) (fun c5 => ?_)
  · -- c5 True
    refine AC.seq ?_
    refine AC.region ?_
    refine AO.yld _ (Yld.assign rfl) rfl rfl rfl ?_
    refine AO.nil ?_
    refine Pure.ret Try.results99 (RVs.cons (RV.tmp rfl) RVs.nil) rfl ?_
    first | (simp_all [askMachines]; done) | grind [askMachines]
  · -- c5 False
    refine AC.skip ?_
    refine AC.seq ?_
    refine AC.seq ?_
    refine AC.region ?_
    refine AO.yld _ (Yld.move rfl) rfl rfl rfl ?_
    refine AO.yld _ (Yld.len Try.underlying54 rfl rfl) rfl rfl rfl ?_
    refine AO.yld _ (Yld.int rfl rfl rfl) rfl rfl rfl ?_
    refine AO.nil ?_
    refine AC.cond _ rfl (fun c8 => ?_) (fun c8 => ?_)
    · -- c8 True
      refine AC.seq ?_
      refine AC.region ?_
      refine AO.yld _ (Yld.assign rfl) rfl rfl rfl ?_
      refine AO.nil ?_
      refine Pure.ret Try.results99 (RVs.cons (RV.tmp rfl) RVs.nil) rfl ?_
      first | (simp_all [askMachines]; done) | grind [askMachines]
    · -- c8 False
      refine AC.skip ?_
      refine AC.seq ?_
      refine AC.region ?_
      refine AO.yld _ (Yld.assign rfl) rfl rfl rfl ?_
      refine AO.nil ?_
      refine Pure.ret Try.results99 (RVs.cons (RV.tmp rfl) RVs.nil) rfl ?_
      first | (simp_all [askMachines]; done) | grind [askMachines]

theorem impl_checkMachines_c {xs : List Mach} (hn : xs.length ≤ 1048576) (hs : ∀ x ∈ xs, x.name.length ≤ 1048576) :
    Pure Try.prog 103 [.sl 3 (xs.map encMach)] (.v (.int .i64 (askMachines xs))) := by
  refine Pure.intro Try.func103 rfl Try.ntmps103 rfl rfl (fun w => ?_)
  refine AC.seq ?_
  refine AC.region ?_
  refine AO.yld _ (Yld.assign rfl) rfl rfl rfl ?_
  refine AO.nil ?_
  refine AC.seq ?_
  refine AC.block ?_
  refine AC.seq ?_
  refine AC.region ?_
  refine AO.yld _ (Yld.move rfl) rfl rfl rfl ?_
  refine AO.yld _ (Yld.call rfl rfl Try.call153 rfl rfl rfl (impl_ValidMachines_c (by first | assumption | omega) (by assumption)) rfl) rfl rfl rfl ?_
  refine AO.yld _ (Yld.not rfl) rfl rfl rfl ?_
  refine AO.yld _ (Yld.assign rfl) rfl rfl rfl ?_
  refine AO.nil ?_
  refine AC.cond _ rfl (fun c3 => ?_) (fun c3 => ?_)
  · -- c3 True
    refine AC.seq ?_
    refine AC.region ?_
    refine AO.yld _ (Yld.assign rfl) rfl rfl rfl ?_
    refine AO.nil ?_
    refine Pure.ret Try.results103 (RVs.cons (RV.tmp rfl) RVs.nil) rfl ?_
    first | (simp_all [askMachines]; done) | grind [askMachines]
  · -- c3 False
    refine AC.seq ?_
    refine AC.region ?_
    refine AO.yld _ (Yld.move rfl) rfl rfl rfl ?_
    refine AO.yld _ (Yld.len Try.underlying54 rfl rfl) rfl rfl rfl ?_
    refine AO.yld _ (Yld.int rfl rfl rfl) rfl rfl rfl ?_
    refine AO.yld _ (Yld.assign rfl) rfl rfl rfl ?_
    refine AO.nil ?_
    refine AC.cond _ rfl (fun c7 => ?_) (fun c7 => ?_)
    · -- c7 True
      refine AC.seq ?_
      refine AC.region ?_
      refine AO.yld _ (Yld.assign rfl) rfl rfl rfl ?_
      refine AO.nil ?_
      refine Pure.ret Try.results103 (RVs.cons (RV.tmp rfl) RVs.nil) rfl ?_
      first | (simp_all [askMachines]; done) | grind [askMachines]
    · -- c7 False
      refine AC.skip ?_
      refine AC.mark ?_
      refine AC.seq ?_
      refine AC.region ?_
      refine AO.yld _ (Yld.assign rfl) rfl rfl rfl ?_
      refine AO.nil ?_
      refine Pure.ret Try.results103 (RVs.cons (RV.tmp rfl) RVs.nil) rfl ?_
      first | (simp_all [askMachines]; done) | grind [askMachines]

theorem spec_LeadFor_c {xs : List Mach} {m : Int} (hn : xs.length ≤ 1048576) (hs : ∀ x ∈ xs, x.name.length ≤ 1048576) :
    Pure Try.prog 33 [.sl 3 (xs.map encMach), .v (.int .i64 m)] (.tup [.v (.int .i64 (leadFor xs m).1), .v (.int .i64 (leadFor xs m).2)]) := by
  refine Pure.intro Try.func33 rfl Try.ntmps33 rfl rfl (fun w => ?_)
  refine AC.seq ?_
  refine AC.region ?_
  refine AO.yld _ (Yld.assign rfl) rfl rfl rfl ?_
  refine AO.yld _ (Yld.assign rfl) rfl rfl rfl ?_
  refine AO.nil ?_
  refine AC.seq ?_
  refine AC.region ?_
  refine AO.yld _ (Yld.move rfl) rfl rfl rfl ?_
  refine AO.yld _ (Yld.call rfl rfl Try.call99 rfl rfl rfl (spec_l26Ask_c (by first | assumption | omega) (by assumption)) rfl) rfl rfl rfl ?_
  refine AO.yld _ (Yld.assign rfl) rfl rfl rfl ?_
  refine AO.nil ?_
  refine AC.seq ?_
  refine AC.seq ?_
  refine AC.region ?_
  refine AO.yld _ (Yld.move rfl) rfl rfl rfl ?_
  refine AO.yld _ (Yld.int rfl rfl rfl) rfl rfl rfl ?_
  refine AO.yld _ (Yld.move rfl) rfl rfl rfl ?_
  refine AO.splitAt 13 _ rfl (fun s13 => ?_) (fun s13 => ?_)
  · -- s13 True
    refine AO.yldG _ (Yld.move rfl) rfl rfl rfl rfl rfl ?_
    refine AO.yldG _ (Yld.call rfl rfl Try.call100 rfl rfl rfl (spec_l26Time_c) rfl) rfl rfl rfl rfl rfl ?_
    refine AO.yldG _ (Yld.not rfl) rfl rfl rfl rfl rfl ?_
    refine AO.yld _ (Yld.pickT rfl rfl) rfl rfl rfl ?_
    refine AO.nil ?_
    refine AC.cond _ rfl (fun c17 => ?_) (fun c17 => ?_)
    · -- c17 True
      refine AC.region ?_
      refine AO.yld _ (Yld.assign rfl) rfl rfl rfl ?_
      refine AO.nil ?_
      refine AC.seq ?_
      refine AC.seq ?_
      refine AC.region ?_
      refine AO.yld _ (Yld.move rfl) rfl rfl rfl ?_
      refine AO.yld _ (Yld.int rfl rfl rfl) rfl rfl rfl ?_
      refine AO.nil ?_
      refine AC.cond _ rfl (fun c19 => ?_) (fun c19 => ?_)
      · -- c19 True
        refine AC.seq ?_
        refine AC.region ?_
        refine AO.yld _ (Yld.move rfl) rfl rfl rfl ?_
        refine AO.yld _ (Yld.assign rfl) rfl rfl rfl ?_
        refine AO.yld _ (Yld.assign rfl) rfl rfl rfl ?_
        refine AO.nil ?_
        refine Pure.retT Try.results33 (RVs.cons (RV.tmp rfl) (RVs.cons (RV.tmp rfl) RVs.nil)) rfl ?_
        first | (simp_all [leadFor]; done) | grind [leadFor]
      · -- c19 False
        have hk0 : askMachines xs = 0 := by first | (simpa using c19) | (exact absurd c19 (by decide))
        have hok := (ask_ok hk0).1
        have hm : 0 ≤ m ∧ m ≤ 1000000000 := by first | (simpa using c17) | (exfalso; simp_all)
        refine AC.skip ?_
        refine AC.seq ?_
        refine AC.region ?_
        refine AO.yld _ (Yld.assign rfl) rfl rfl rfl ?_
        refine AO.nil ?_
        refine AC.seq ?_
        refine AC.seq ?_
        refine AC.region ?_
        refine AO.yld _ (Yld.assign rfl) rfl rfl rfl ?_
        refine AO.nil ?_
        refine AC.block ?_
        refine AC.loopC [(0, _), (1, _), (4, _), (5, _)] [] (fun (k : Nat) => [(8, .p (.v (.int .i64 (k : Int)))), (7, .p (.v (.int .i64 ((maxTo Mach.delay xs k + 1) / 2))))]) (fun (k : Nat) => []) (fun (k : Nat) => k ≤ xs.length) (fun (k : Nat) => xs.length - k) 0 ⟨rfl, rfl, rfl, rfl, trivial⟩ trivial ⟨rfl, rfl, trivial⟩ trivial ?_ (fun k hJ => ?_)
        · exact Nat.zero_le _
        · -- round
          refine AC.seq ?_
          refine AC.seq ?_
          refine AC.region ?_
          refine AO.yld _ (Yld.move rfl) rfl rfl rfl ?_
          refine AO.yld _ (Yld.move rfl) rfl rfl rfl ?_
          refine AO.yld _ (Yld.len Try.underlying54 rfl rfl) rfl rfl rfl ?_
          refine AO.yld _ (Yld.int rfl rfl rfl) rfl rfl rfl ?_
          refine AO.nil ?_
          refine AC.cond _ rfl (fun c24 => ?_) (fun c24 => ?_)
          · -- c24 True
            have hk := lt_of_decM c24
            obtain ⟨x, hx⟩ := get_some hk
            have hrow := map_row (enc := encMach) hx
            have hl1 := mach_lim (machines_at hok hx)
            have hdk := delay_lim hok k
            refine AC.skip ?_
            refine AC.seq ?_
            refine AC.block ?_
            refine AC.region ?_
            refine AO.yld _ (Yld.move rfl) rfl rfl rfl ?_
            refine AO.yld _ (Yld.move rfl) rfl rfl rfl ?_
            refine AO.yld _ (Yld.move rfl) rfl rfl rfl ?_
            refine AO.yld _ (Yld.indexSl Try.underlying54 Try.sizeOf73 rfl rfl hrow rfl) rfl rfl rfl ?_
            refine AO.yld _ (Yld.fieldAddr Try.underlying73 rfl rfl Try.sizeOf2 rfl rfl rfl) rfl rfl rfl ?_
            refine AO.yld _ (Yld.load Try.isAgg2 rfl rfl) rfl rfl rfl ?_
            refine AO.yld _ (Yld.add rfl rfl (by omega) (by omega)) rfl rfl rfl ?_
            refine AO.yld _ (Yld.quoP rfl rfl (by omega) (by omega) (by omega)) rfl rfl rfl ?_
            refine AO.yld _ (Yld.call rfl rfl Try.call101 rfl rfl rfl (spec_l00Max_c) rfl) rfl rfl rfl ?_
            refine AO.yld _ (Yld.assign rfl) rfl rfl rfl ?_
            refine AO.nil ?_
            refine AC.mark ?_
            refine AC.region ?_
            refine AO.yld _ (Yld.move rfl) rfl rfl rfl ?_
            refine AO.yld _ (Yld.add rfl rfl (by omega) (by omega)) rfl rfl rfl ?_
            refine AO.yld _ (Yld.assign rfl) rfl rfl rfl ?_
            refine AO.nil ?_
            refine AC.back ⟨k + 1, ?_, ?_, ⟨?_, ?_, trivial⟩, trivial, ⟨rfl, rfl, rfl, rfl, trivial⟩, trivial⟩
            · exact hk
            · omega
            · rfl
            · show some (AV.p (PV.v (Value.int IntKind.i64 _))) = _; first | (rw [maxTo_succ hx]; done) | (rw [maxTo_succ hx]; congr 4; (try rw [half_up (by omega)]); omega)
          · -- c24 False
            obtain rfl : k = xs.length := by have := ge_of_decM c24; omega
            have hdk := delay_lim hok xs.length
            refine AC.exit rfl ?_
            refine AC.seq ?_
            refine AC.region ?_
            refine AO.yld _ (Yld.move rfl) rfl rfl rfl ?_
            refine AO.yld _ (Yld.move rfl) rfl rfl rfl ?_
            refine AO.yld _ (Yld.add rfl rfl (by omega) (by omega)) rfl rfl rfl ?_
            refine AO.yld _ (Yld.assign rfl) rfl rfl rfl ?_
            refine AO.yld _ (Yld.assign rfl) rfl rfl rfl ?_
            refine AO.nil ?_
            refine Pure.retT Try.results33 (RVs.cons (RV.tmp rfl) (RVs.cons (RV.tmp rfl) RVs.nil)) rfl ?_
            first | (simp_all [leadFor]; done) | grind [leadFor]
    · -- c17 False
      refine AC.skip ?_
      refine AC.seq ?_
      refine AC.seq ?_
      refine AC.region ?_
      refine AO.yld _ (Yld.move rfl) rfl rfl rfl ?_
      refine AO.yld _ (Yld.int rfl rfl rfl) rfl rfl rfl ?_
      refine AO.nil ?_
      refine AC.cond _ rfl (fun c19 => ?_) (fun c19 => ?_)
      · -- c19 True
        refine AC.seq ?_
        refine AC.region ?_
        refine AO.yld _ (Yld.move rfl) rfl rfl rfl ?_
        refine AO.yld _ (Yld.assign rfl) rfl rfl rfl ?_
        refine AO.yld _ (Yld.assign rfl) rfl rfl rfl ?_
        refine AO.nil ?_
        refine Pure.retT Try.results33 (RVs.cons (RV.tmp rfl) (RVs.cons (RV.tmp rfl) RVs.nil)) rfl ?_
        first | (simp_all [leadFor]; done) | grind [leadFor]
      · -- c19 False
        have hk0 : askMachines xs = 0 := by first | (simpa using c19) | (exact absurd c19 (by decide))
        have hok := (ask_ok hk0).1
        have hm : 0 ≤ m ∧ m ≤ 1000000000 := by first | (simpa using c17) | (exfalso; simp_all)
        refine AC.skip ?_
        refine AC.seq ?_
        refine AC.region ?_
        refine AO.yld _ (Yld.assign rfl) rfl rfl rfl ?_
        refine AO.nil ?_
        refine AC.seq ?_
        refine AC.seq ?_
        refine AC.region ?_
        refine AO.yld _ (Yld.assign rfl) rfl rfl rfl ?_
        refine AO.nil ?_
        refine AC.block ?_
        refine AC.loopC [(0, _), (1, _), (4, _), (5, _)] [] (fun (k : Nat) => [(8, .p (.v (.int .i64 (k : Int)))), (7, .p (.v (.int .i64 ((maxTo Mach.delay xs k + 1) / 2))))]) (fun (k : Nat) => []) (fun (k : Nat) => k ≤ xs.length) (fun (k : Nat) => xs.length - k) 0 ⟨rfl, rfl, rfl, rfl, trivial⟩ trivial ⟨rfl, rfl, trivial⟩ trivial ?_ (fun k hJ => ?_)
        · exact Nat.zero_le _
        · -- round
          refine AC.seq ?_
          refine AC.seq ?_
          refine AC.region ?_
          refine AO.yld _ (Yld.move rfl) rfl rfl rfl ?_
          refine AO.yld _ (Yld.move rfl) rfl rfl rfl ?_
          refine AO.yld _ (Yld.len Try.underlying54 rfl rfl) rfl rfl rfl ?_
          refine AO.yld _ (Yld.int rfl rfl rfl) rfl rfl rfl ?_
          refine AO.nil ?_
          refine AC.cond _ rfl (fun c24 => ?_) (fun c24 => ?_)
          · -- c24 True
            have hk := lt_of_decM c24
            obtain ⟨x, hx⟩ := get_some hk
            have hrow := map_row (enc := encMach) hx
            have hl1 := mach_lim (machines_at hok hx)
            have hdk := delay_lim hok k
            refine AC.skip ?_
            refine AC.seq ?_
            refine AC.block ?_
            refine AC.region ?_
            refine AO.yld _ (Yld.move rfl) rfl rfl rfl ?_
            refine AO.yld _ (Yld.move rfl) rfl rfl rfl ?_
            refine AO.yld _ (Yld.move rfl) rfl rfl rfl ?_
            refine AO.yld _ (Yld.indexSl Try.underlying54 Try.sizeOf73 rfl rfl hrow rfl) rfl rfl rfl ?_
            refine AO.yld _ (Yld.fieldAddr Try.underlying73 rfl rfl Try.sizeOf2 rfl rfl rfl) rfl rfl rfl ?_
            refine AO.yld _ (Yld.load Try.isAgg2 rfl rfl) rfl rfl rfl ?_
            refine AO.yld _ (Yld.add rfl rfl (by omega) (by omega)) rfl rfl rfl ?_
            refine AO.yld _ (Yld.quoP rfl rfl (by omega) (by omega) (by omega)) rfl rfl rfl ?_
            refine AO.yld _ (Yld.call rfl rfl Try.call101 rfl rfl rfl (spec_l00Max_c) rfl) rfl rfl rfl ?_
            refine AO.yld _ (Yld.assign rfl) rfl rfl rfl ?_
            refine AO.nil ?_
            refine AC.mark ?_
            refine AC.region ?_
            refine AO.yld _ (Yld.move rfl) rfl rfl rfl ?_
            refine AO.yld _ (Yld.add rfl rfl (by omega) (by omega)) rfl rfl rfl ?_
            refine AO.yld _ (Yld.assign rfl) rfl rfl rfl ?_
            refine AO.nil ?_
            refine AC.back ⟨k + 1, ?_, ?_, ⟨?_, ?_, trivial⟩, trivial, ⟨rfl, rfl, rfl, rfl, trivial⟩, trivial⟩
            · exact hk
            · omega
            · rfl
            · show some (AV.p (PV.v (Value.int IntKind.i64 _))) = _; first | (rw [maxTo_succ hx]; done) | (rw [maxTo_succ hx]; congr 4; (try rw [half_up (by omega)]); omega)
          · -- c24 False
            obtain rfl : k = xs.length := by have := ge_of_decM c24; omega
            have hdk := delay_lim hok xs.length
            refine AC.exit rfl ?_
            refine AC.seq ?_
            refine AC.region ?_
            refine AO.yld _ (Yld.move rfl) rfl rfl rfl ?_
            refine AO.yld _ (Yld.move rfl) rfl rfl rfl ?_
            refine AO.yld _ (Yld.add rfl rfl (by omega) (by omega)) rfl rfl rfl ?_
            refine AO.yld _ (Yld.assign rfl) rfl rfl rfl ?_
            refine AO.yld _ (Yld.assign rfl) rfl rfl rfl ?_
            refine AO.nil ?_
            refine Pure.retT Try.results33 (RVs.cons (RV.tmp rfl) (RVs.cons (RV.tmp rfl) RVs.nil)) rfl ?_
            first | (simp_all [leadFor]; done) | grind [leadFor]
  · -- s13 False
    refine AO.skipT rfl rfl rfl rfl rfl ?_
    refine AO.skipT rfl rfl rfl rfl rfl ?_
    refine AO.skipT rfl rfl rfl rfl rfl ?_
    refine AO.yld _ (Yld.pickF rfl rfl) rfl rfl rfl ?_
    refine AO.nil ?_
    refine AC.condF rfl ?_
    refine AC.skip ?_
    refine AC.seq ?_
    refine AC.seq ?_
    refine AC.region ?_
    refine AO.yld _ (Yld.move rfl) rfl rfl rfl ?_
    refine AO.yld _ (Yld.int rfl rfl rfl) rfl rfl rfl ?_
    refine AO.nil ?_
    refine AC.cond _ rfl (fun c19 => ?_) (fun c19 => ?_)
    · -- c19 True
      refine AC.seq ?_
      refine AC.region ?_
      refine AO.yld _ (Yld.move rfl) rfl rfl rfl ?_
      refine AO.yld _ (Yld.assign rfl) rfl rfl rfl ?_
      refine AO.yld _ (Yld.assign rfl) rfl rfl rfl ?_
      refine AO.nil ?_
      refine Pure.retT Try.results33 (RVs.cons (RV.tmp rfl) (RVs.cons (RV.tmp rfl) RVs.nil)) rfl ?_
      first | (simp_all [leadFor]; done) | grind [leadFor]
    · -- c19 False
      have hk0 : askMachines xs = 0 := by first | (simpa using c19) | (exact absurd c19 (by decide))
      have hok := (ask_ok hk0).1
      have hm : 0 ≤ m ∧ m ≤ 1000000000 := by first | (simpa using c17) | (exfalso; simp_all)
      refine AC.skip ?_
      refine AC.seq ?_
      refine AC.region ?_
      refine AO.yld _ (Yld.assign rfl) rfl rfl rfl ?_
      refine AO.nil ?_
      refine AC.seq ?_
      refine AC.seq ?_
      refine AC.region ?_
      refine AO.yld _ (Yld.assign rfl) rfl rfl rfl ?_
      refine AO.nil ?_
      refine AC.block ?_
      refine AC.loopC [(0, _), (1, _), (4, _), (5, _)] [] (fun (k : Nat) => [(8, .p (.v (.int .i64 (k : Int)))), (7, .p (.v (.int .i64 ((maxTo Mach.delay xs k + 1) / 2))))]) (fun (k : Nat) => []) (fun (k : Nat) => k ≤ xs.length) (fun (k : Nat) => xs.length - k) 0 ⟨rfl, rfl, rfl, rfl, trivial⟩ trivial ⟨rfl, rfl, trivial⟩ trivial ?_ (fun k hJ => ?_)
      · exact Nat.zero_le _
      · -- round
        refine AC.seq ?_
        refine AC.seq ?_
        refine AC.region ?_
        refine AO.yld _ (Yld.move rfl) rfl rfl rfl ?_
        refine AO.yld _ (Yld.move rfl) rfl rfl rfl ?_
        refine AO.yld _ (Yld.len Try.underlying54 rfl rfl) rfl rfl rfl ?_
        refine AO.yld _ (Yld.int rfl rfl rfl) rfl rfl rfl ?_
        refine AO.nil ?_
        refine AC.cond _ rfl (fun c24 => ?_) (fun c24 => ?_)
        · -- c24 True
          have hk := lt_of_decM c24
          obtain ⟨x, hx⟩ := get_some hk
          have hrow := map_row (enc := encMach) hx
          have hl1 := mach_lim (machines_at hok hx)
          have hdk := delay_lim hok k
          refine AC.skip ?_
          refine AC.seq ?_
          refine AC.block ?_
          refine AC.region ?_
          refine AO.yld _ (Yld.move rfl) rfl rfl rfl ?_
          refine AO.yld _ (Yld.move rfl) rfl rfl rfl ?_
          refine AO.yld _ (Yld.move rfl) rfl rfl rfl ?_
          refine AO.yld _ (Yld.indexSl Try.underlying54 Try.sizeOf73 rfl rfl hrow rfl) rfl rfl rfl ?_
          refine AO.yld _ (Yld.fieldAddr Try.underlying73 rfl rfl Try.sizeOf2 rfl rfl rfl) rfl rfl rfl ?_
          refine AO.yld _ (Yld.load Try.isAgg2 rfl rfl) rfl rfl rfl ?_
          refine AO.yld _ (Yld.add rfl rfl (by omega) (by omega)) rfl rfl rfl ?_
          refine AO.yld _ (Yld.quoP rfl rfl (by omega) (by omega) (by omega)) rfl rfl rfl ?_
          refine AO.yld _ (Yld.call rfl rfl Try.call101 rfl rfl rfl (spec_l00Max_c) rfl) rfl rfl rfl ?_
          refine AO.yld _ (Yld.assign rfl) rfl rfl rfl ?_
          refine AO.nil ?_
          refine AC.mark ?_
          refine AC.region ?_
          refine AO.yld _ (Yld.move rfl) rfl rfl rfl ?_
          refine AO.yld _ (Yld.add rfl rfl (by omega) (by omega)) rfl rfl rfl ?_
          refine AO.yld _ (Yld.assign rfl) rfl rfl rfl ?_
          refine AO.nil ?_
          refine AC.back ⟨k + 1, ?_, ?_, ⟨?_, ?_, trivial⟩, trivial, ⟨rfl, rfl, rfl, rfl, trivial⟩, trivial⟩
          · exact hk
          · omega
          · rfl
          · show some (AV.p (PV.v (Value.int IntKind.i64 _))) = _; first | (rw [maxTo_succ hx]; done) | (rw [maxTo_succ hx]; congr 4; (try rw [half_up (by omega)]); omega)
        · -- c24 False
          obtain rfl : k = xs.length := by have := ge_of_decM c24; omega
          have hdk := delay_lim hok xs.length
          refine AC.exit rfl ?_
          refine AC.seq ?_
          refine AC.region ?_
          refine AO.yld _ (Yld.move rfl) rfl rfl rfl ?_
          refine AO.yld _ (Yld.move rfl) rfl rfl rfl ?_
          refine AO.yld _ (Yld.add rfl rfl (by omega) (by omega)) rfl rfl rfl ?_
          refine AO.yld _ (Yld.assign rfl) rfl rfl rfl ?_
          refine AO.yld _ (Yld.assign rfl) rfl rfl rfl ?_
          refine AO.nil ?_
          refine Pure.retT Try.results33 (RVs.cons (RV.tmp rfl) (RVs.cons (RV.tmp rfl) RVs.nil)) rfl ?_
          first | (simp_all [leadFor]; done) | grind [leadFor]

theorem impl_LeadFor_c {xs : List Mach} {m : Int} (hn : xs.length ≤ 1048576) (hs : ∀ x ∈ xs, x.name.length ≤ 1048576) :
    Pure Try.prog 35 [.sl 3 (xs.map encMach), .v (.int .i64 m)] (.tup [.v (.int .i64 (leadFor xs m).1), .v (.int .i64 (leadFor xs m).2)]) := by
  refine Pure.intro Try.func35 rfl Try.ntmps35 rfl rfl (fun w => ?_)
  refine AC.seq ?_
  refine AC.region ?_
  refine AO.yld _ (Yld.assign rfl) rfl rfl rfl ?_
  refine AO.yld _ (Yld.assign rfl) rfl rfl rfl ?_
  refine AO.nil ?_
  refine AC.seq ?_
  refine AC.seq ?_
  refine AC.region ?_
  refine AO.yld _ (Yld.move rfl) rfl rfl rfl ?_
  refine AO.yld _ (Yld.call rfl rfl Try.call103 rfl rfl rfl (impl_checkMachines_c (by first | assumption | omega) (by assumption)) rfl) rfl rfl rfl ?_
  refine AO.yld _ (Yld.assign rfl) rfl rfl rfl ?_
  refine AO.nil ?_
  refine AC.seq ?_
  refine AC.region ?_
  refine AO.yld _ (Yld.move rfl) rfl rfl rfl ?_
  refine AO.yld _ (Yld.int rfl rfl rfl) rfl rfl rfl ?_
  refine AO.nil ?_
  refine AC.cond _ rfl (fun c13 => ?_) (fun c13 => ?_)
  · -- c13 True
    refine AC.seq ?_
    refine AC.region ?_
    refine AO.yld _ (Yld.move rfl) rfl rfl rfl ?_
    refine AO.yld _ (Yld.assign rfl) rfl rfl rfl ?_
    refine AO.yld _ (Yld.assign rfl) rfl rfl rfl ?_
    refine AO.nil ?_
    refine Pure.retT Try.results35 (RVs.cons (RV.tmp rfl) (RVs.cons (RV.tmp rfl) RVs.nil)) rfl ?_
    first | (simp_all [leadFor]; done) | grind [leadFor]
  · -- c13 False
    have hk0 : askMachines xs = 0 := by first | (simpa using c13) | (exact absurd c13 (by decide))
    have hok := (ask_ok hk0).1
    refine AC.skip ?_
    refine AC.seq ?_
    refine AC.seq ?_
    refine AC.region ?_
    refine AO.yld _ (Yld.move rfl) rfl rfl rfl ?_
    refine AO.yld _ (Yld.call rfl rfl Try.call72 rfl rfl rfl (impl_within_c) rfl) rfl rfl rfl ?_
    refine AO.yld _ (Yld.not rfl) rfl rfl rfl ?_
    refine AO.nil ?_
    refine AC.cond _ rfl (fun c17 => ?_) (fun c17 => ?_)
    · -- c17 True
      refine AC.seq ?_
      refine AC.region ?_
      refine AO.yld _ (Yld.assign rfl) rfl rfl rfl ?_
      refine AO.yld _ (Yld.assign rfl) rfl rfl rfl ?_
      refine AO.nil ?_
      refine Pure.retT Try.results35 (RVs.cons (RV.tmp rfl) (RVs.cons (RV.tmp rfl) RVs.nil)) rfl ?_
      first | (simp_all [leadFor]; done) | grind [leadFor]
    · -- c17 False
      have hm : 0 ≤ m ∧ m ≤ 1000000000 := by simpa using c17
      refine AC.skip ?_
      refine AC.seq ?_
      refine AC.region ?_
      refine AO.yld _ (Yld.assign rfl) rfl rfl rfl ?_
      refine AO.nil ?_
      refine AC.seq ?_
      refine AC.seq ?_
      refine AC.region ?_
      refine AO.yld _ (Yld.move rfl) rfl rfl rfl ?_
      refine AO.yld _ (Yld.len Try.underlying54 rfl rfl) rfl rfl rfl ?_
      refine AO.yld _ (Yld.move rfl) rfl rfl rfl ?_
      refine AO.nil ?_
      refine AC.block ?_
      refine AC.loopC [(1, _), (4, _), (5, _), (18, _), (19, _)] [] (fun (k : Nat) => [(20, .p (.v (.int .i64 (k : Int)))), (7, .p (.v (.int .i64 (maxTo Mach.delay xs k))))]) (fun (k : Nat) => []) (fun (k : Nat) => k ≤ xs.length) (fun (k : Nat) => xs.length - k) 0 ⟨rfl, rfl, rfl, rfl, rfl, trivial⟩ trivial ⟨rfl, rfl, trivial⟩ trivial ?_ (fun k hJ => ?_)
      · exact Nat.zero_le _
      · -- round
        refine AC.seq ?_
        refine AC.region ?_
        refine AO.yld _ (Yld.int rfl rfl rfl) rfl rfl rfl ?_
        refine AO.nil ?_
        refine AC.seq ?_
        refine AC.cond _ rfl (fun c21 => ?_) (fun c21 => ?_)
        · -- c21 True
          have hk := lt_of_decM c21
          obtain ⟨x, hx⟩ := get_some hk
          have hrow := map_row (enc := encMach) hx
          have hl1 := mach_lim (machines_at hok hx)
          have hdk := delay_lim hok k
          refine AC.skip ?_
          refine AC.seq ?_
          refine AC.block ?_
          refine AC.seq ?_
          refine AC.region ?_
          refine AO.yld _ (Yld.indexSl Try.underlying54 Try.sizeOf73 rfl rfl hrow rfl) rfl rfl rfl ?_
          refine AO.yld _ (Yld.loadAgg Try.isAgg73 Try.sizeOf73 rfl rfl rfl rfl) rfl rfl rfl ?_
          refine AO.alloc 0 Try.zeroValue73 rfl rfl rfl ?_
          refine AO.store Try.sizeOf73 rfl rfl rfl rfl rfl rfl ?_
          refine AO.nil ?_
          refine AC.region ?_
          refine AO.yld _ (Yld.move rfl) rfl rfl rfl ?_
          refine AO.yld _ (Yld.fieldAddr Try.underlying73 rfl rfl Try.sizeOf2 rfl rfl rfl) rfl rfl rfl ?_
          refine AO.yld _ (Yld.load Try.isAgg2 rfl rfl) rfl rfl rfl ?_
          refine AO.yld _ (Yld.max2 rfl rfl) rfl rfl rfl ?_
          refine AO.yld _ (Yld.assign rfl) rfl rfl rfl ?_
          refine AO.nil ?_
          refine AC.mark ?_
          refine AC.region ?_
          refine AO.yld _ (Yld.add rfl rfl (by omega) (by omega)) rfl rfl rfl ?_
          refine AO.yld _ (Yld.move rfl) rfl rfl rfl ?_
          refine AO.nil ?_
          refine AC.back ⟨k + 1, ?_, ?_, ⟨?_, ?_, trivial⟩, trivial, ⟨rfl, rfl, rfl, rfl, rfl, trivial⟩, trivial⟩
          · exact hk
          · omega
          · rfl
          · show some (AV.p (PV.v (Value.int IntKind.i64 _))) = _; first | (rw [maxTo_succ hx]; done) | (rw [maxTo_succ hx]; congr 4; (try rw [half_up (by omega)]); omega)
        · -- c21 False
          obtain rfl : k = xs.length := by have := ge_of_decM c21; omega
          have hdk := delay_lim hok xs.length
          refine AC.exit rfl ?_
          refine AC.seq ?_
          refine AC.region ?_
          refine AO.yld _ (Yld.move rfl) rfl rfl rfl ?_
          refine AO.yld _ (Yld.call rfl rfl Try.call74 rfl rfl rfl (impl_quotientUp_c (by omega) (by omega) (by omega)) rfl) rfl rfl rfl ?_
          refine AO.yld _ (Yld.move rfl) rfl rfl rfl ?_
          refine AO.yld _ (Yld.add rfl rfl (by omega) (by omega)) rfl rfl rfl ?_
          refine AO.yld _ (Yld.assign rfl) rfl rfl rfl ?_
          refine AO.yld _ (Yld.assign rfl) rfl rfl rfl ?_
          refine AO.nil ?_
          refine Pure.retT Try.results35 (RVs.cons (RV.tmp rfl) (RVs.cons (RV.tmp rfl) RVs.nil)) rfl ?_
          first | (simp_all [leadFor]; done) | grind [leadFor]

end Go.Proofs.Ytglblonacmhceaa
