/- Contracts of functions of the program, each by a walk of its text in the calculus V. -/
import Derived.Test.YtaanabofedickaaR2A
import Derived.Test.YtaanabofedickaaD7
import Derived.Test.YtaanabofedickaaV15
set_option linter.all false
set_option linter.unusedSimpArgs false
set_option linter.unnecessarySimpa false
set_option linter.unusedVariables false
namespace Go.Proofs.Ytaanabofedickaa
open Go Go.V

theorem spec_l25Uses_c {xs : List NV} {ns : List (List UInt8)} (hn : xs.length ≤ 1048576) (hs : ∀ x ∈ xs, x.name.length ≤ 1048576) (hm : ns.length ≤ 1048576) :
    Pure Try.prog 113 [.sl 2 (xs.map encNV), .sl 1 (ns.map encS)] (.v (.int .i64 (askUses xs ns))) := by
  refine Pure.intro Try.func113 rfl Try.ntmps113 rfl rfl (fun w => ?_)
  refine AC.seq ?_
  refine AC.region ?_
  refine AO.yld _ (Yld.assign rfl) rfl rfl rfl ?_
  refine AO.nil ?_
  refine AC.seq ?_
  refine AC.seq ?_
  refine AC.region ?_
  refine AO.yld _ (Yld.move rfl) rfl rfl rfl ?_
  refine AO.yld _ (Yld.call rfl rfl Try.call83 rfl rfl rfl (spec_l25Ok_c (by first | assumption | omega) (by assumption)) rfl) rfl rfl rfl ?_
  refine AO.yld _ (Yld.not rfl) rfl rfl rfl ?_
  refine AO.nil ?_
  refine AC.cond _ rfl (fun c8 => ?_) (fun c8 => ?_)
  · -- c8 True
    refine AC.seq ?_
    refine AC.region ?_
    refine AO.yld _ (Yld.assign rfl) rfl rfl rfl ?_
    refine AO.nil ?_
    refine Pure.ret Try.results113 (RVs.cons (RV.tmp rfl) RVs.nil) rfl ?_
    first
      | (have e : okMedias xs = false := by simpa using c8
         simp [askUses, e])
      | (have e : ns.all (fun n => !decide (lookup xs n = 0)) = false := all_miss hx (by simpa using c21)
         simp only [askUses, hok, e]; rfl)
      | (have h : ns.length > 40 := by (have h := c24; simp only [List.length_map] at h; simp at h; omega)
         simp only [askUses, hok, hall, if_pos h]; rfl)
      | (have h : ¬ ns.length > 40 := by (have h := c24; simp only [List.length_map] at h; simp at h; omega)
         simp only [askUses, hok, hall, if_neg h]; rfl)
  · -- c8 False
    have hok : okMedias xs = true := by simpa using c8
    refine AC.skip ?_
    refine AC.seq ?_
    refine AC.seq ?_
    refine AC.region ?_
    refine AO.yld _ (Yld.assign rfl) rfl rfl rfl ?_
    refine AO.nil ?_
    refine AC.block ?_
    refine AC.loopC [(0, _), (1, _)] [] (fun (k : Nat) => [(5, .p (.v (.int .i64 (k : Int))))]) (fun (k : Nat) => []) (fun (k : Nat) => k ≤ ns.length ∧ allTo (fun n => !decide (lookup xs n = 0)) ns k = true) (fun (k : Nat) => ns.length - k) 0 ⟨rfl, rfl, trivial⟩ trivial ⟨rfl, trivial⟩ trivial ?_ (fun k hJ => ?_)
    · exact ⟨Nat.zero_le _, rfl⟩
    · -- round
      refine AC.seq ?_
      refine AC.seq ?_
      refine AC.region ?_
      refine AO.yld _ (Yld.move rfl) rfl rfl rfl ?_
      refine AO.yld _ (Yld.move rfl) rfl rfl rfl ?_
      refine AO.yld _ (Yld.len Try.underlying80 rfl rfl) rfl rfl rfl ?_
      refine AO.yld _ (Yld.int rfl rfl rfl) rfl rfl rfl ?_
      refine AO.nil ?_
      refine AC.cond _ rfl (fun c12 => ?_) (fun c12 => ?_)
      · -- c12 True
        have hk := lt_of_decM c12
        obtain ⟨x, hx⟩ := get_some hk
        have hrow := map_row (enc := encS) hx
        refine AC.skip ?_
        refine AC.seq ?_
        refine AC.block ?_
        refine AC.seq ?_
        refine AC.region ?_
        refine AO.yld _ (Yld.move rfl) rfl rfl rfl ?_
        refine AO.yld _ (Yld.move rfl) rfl rfl rfl ?_
        refine AO.yld _ (Yld.move rfl) rfl rfl rfl ?_
        refine AO.yld _ (Yld.indexSl Try.underlying80 Try.sizeOf9 rfl rfl hrow rfl) rfl rfl rfl ?_
        refine AO.yld _ (Yld.load Try.isAgg9 rfl rfl) rfl rfl rfl ?_
        refine AO.yld _ (Yld.call rfl rfl Try.call114 rfl rfl rfl (spec_l25Size_c (by first | assumption | omega)) rfl) rfl rfl rfl ?_
        refine AO.yld _ (Yld.int rfl rfl rfl) rfl rfl rfl ?_
        refine AO.nil ?_
        refine AC.cond _ rfl (fun c21 => ?_) (fun c21 => ?_)
        · -- c21 True
          refine AC.seq ?_
          refine AC.region ?_
          refine AO.yld _ (Yld.assign rfl) rfl rfl rfl ?_
          refine AO.nil ?_
          refine Pure.ret Try.results113 (RVs.cons (RV.tmp rfl) RVs.nil) rfl ?_
          first
            | (have e : okMedias xs = false := by simpa using c8
               simp [askUses, e])
            | (have e : ns.all (fun n => !decide (lookup xs n = 0)) = false := all_miss hx (by simpa using c21)
               simp only [askUses, hok, e]; rfl)
            | (have h : ns.length > 40 := by (have h := c24; simp only [List.length_map] at h; simp at h; omega)
               simp only [askUses, hok, hall, if_pos h]; rfl)
            | (have h : ¬ ns.length > 40 := by (have h := c24; simp only [List.length_map] at h; simp at h; omega)
               simp only [askUses, hok, hall, if_neg h]; rfl)
        · -- c21 False
          refine AC.skip ?_
          refine AC.mark ?_
          refine AC.region ?_
          refine AO.yld _ (Yld.move rfl) rfl rfl rfl ?_
          refine AO.yld _ (Yld.add rfl rfl (by omega) (by omega)) rfl rfl rfl ?_
          refine AO.yld _ (Yld.assign rfl) rfl rfl rfl ?_
          refine AO.nil ?_
          refine AC.back ⟨k + 1, ?_, ?_, ⟨?_, trivial⟩, trivial, ⟨rfl, rfl, trivial⟩, trivial⟩
          · exact ⟨hk, by rw [allTo_succ hx, hJ.2]; simpa using c21⟩
          · omega
          · rfl
      · -- c12 False
        obtain rfl : k = ns.length := by have := ge_of_decM c12; omega
        have hall : ns.all (fun n => !decide (lookup xs n = 0)) = true := by rw [← allTo_all]; exact hJ.2
        refine AC.exit rfl ?_
        refine AC.seq ?_
        refine AC.seq ?_
        refine AC.region ?_
        refine AO.yld _ (Yld.move rfl) rfl rfl rfl ?_
        refine AO.yld _ (Yld.len Try.underlying80 rfl rfl) rfl rfl rfl ?_
        refine AO.yld _ (Yld.int rfl rfl rfl) rfl rfl rfl ?_
        refine AO.nil ?_
        refine AC.cond _ rfl (fun c24 => ?_) (fun c24 => ?_)
        · -- c24 True
          refine AC.seq ?_
          refine AC.region ?_
          refine AO.yld _ (Yld.assign rfl) rfl rfl rfl ?_
          refine AO.nil ?_
          refine Pure.ret Try.results113 (RVs.cons (RV.tmp rfl) RVs.nil) rfl ?_
          first
            | (have e : okMedias xs = false := by simpa using c8
               simp [askUses, e])
            | (have e : ns.all (fun n => !decide (lookup xs n = 0)) = false := all_miss hx (by simpa using c21)
               simp only [askUses, hok, e]; rfl)
            | (have h : ns.length > 40 := by (have h := c24; simp only [List.length_map] at h; simp at h; omega)
               simp only [askUses, hok, hall, if_pos h]; rfl)
            | (have h : ¬ ns.length > 40 := by (have h := c24; simp only [List.length_map] at h; simp at h; omega)
               simp only [askUses, hok, hall, if_neg h]; rfl)
        · -- c24 False
          refine AC.skip ?_
          refine AC.seq ?_
          refine AC.region ?_
          refine AO.yld _ (Yld.assign rfl) rfl rfl rfl ?_
          refine AO.nil ?_
          refine Pure.ret Try.results113 (RVs.cons (RV.tmp rfl) RVs.nil) rfl ?_
          first
            | (have e : okMedias xs = false := by simpa using c8
               simp [askUses, e])
            | (have e : ns.all (fun n => !decide (lookup xs n = 0)) = false := all_miss hx (by simpa using c21)
               simp only [askUses, hok, e]; rfl)
            | (have h : ns.length > 40 := by (have h := c24; simp only [List.length_map] at h; simp at h; omega)
               simp only [askUses, hok, hall, if_pos h]; rfl)
            | (have h : ¬ ns.length > 40 := by (have h := c24; simp only [List.length_map] at h; simp at h; omega)
               simp only [askUses, hok, hall, if_neg h]; rfl)

theorem spec_TotalSize_c {xs : List NV} {ns : List (List UInt8)} (hn : xs.length ≤ 1048576) (hs : ∀ x ∈ xs, x.name.length ≤ 1048576) (hm : ns.length ≤ 1048576) :
    Pure Try.prog 57 [.sl 2 (xs.map encNV), .sl 1 (ns.map encS)] (.tup [.v (.int .i64 (totalSize xs ns).1), .v (.int .i64 (totalSize xs ns).2)]) := by
  refine Pure.intro Try.func57 rfl Try.ntmps57 rfl rfl (fun w => ?_)
  refine AC.seq ?_
  refine AC.region ?_
  refine AO.yld _ (Yld.assign rfl) rfl rfl rfl ?_
  refine AO.yld _ (Yld.assign rfl) rfl rfl rfl ?_
  refine AO.nil ?_
  refine AC.seq ?_
  refine AC.region ?_
  refine AO.yld _ (Yld.move rfl) rfl rfl rfl ?_
  refine AO.yld _ (Yld.move rfl) rfl rfl rfl ?_
  refine AO.yld _ (Yld.call rfl rfl Try.call113 rfl rfl rfl (spec_l25Uses_c (by first | assumption | omega) (by assumption) (by first | assumption | omega)) rfl) rfl rfl rfl ?_
  refine AO.yld _ (Yld.assign rfl) rfl rfl rfl ?_
  refine AO.nil ?_
  refine AC.seq ?_
  refine AC.seq ?_
  refine AC.region ?_
  refine AO.yld _ (Yld.move rfl) rfl rfl rfl ?_
  refine AO.yld _ (Yld.int rfl rfl rfl) rfl rfl rfl ?_
  refine AO.nil ?_
  refine AC.cond _ rfl (fun c13 => ?_) (fun c13 => ?_)
  · -- c13 True
    refine AC.seq ?_
    refine AC.region ?_
    refine AO.yld _ (Yld.move rfl) rfl rfl rfl ?_
    refine AO.yld _ (Yld.assign rfl) rfl rfl rfl ?_
    refine AO.yld _ (Yld.assign rfl) rfl rfl rfl ?_
    refine AO.nil ?_
    refine Pure.retT Try.results57 (RVs.cons (RV.tmp rfl) (RVs.cons (RV.tmp rfl) RVs.nil)) rfl ?_
    first | (exact total_bad (by have h := c13; simp at h; exact h)) | (exact total_ok hok hall h40)
  · -- c13 False
    have hk0 : askUses xs ns = 0 := by have h := c13; simp at h; exact h
    obtain ⟨hok, hall, h40⟩ := askUses_ok hk0
    refine AC.skip ?_
    refine AC.seq ?_
    refine AC.region ?_
    refine AO.yld _ (Yld.assign rfl) rfl rfl rfl ?_
    refine AO.nil ?_
    refine AC.seq ?_
    refine AC.seq ?_
    refine AC.region ?_
    refine AO.yld _ (Yld.assign rfl) rfl rfl rfl ?_
    refine AO.nil ?_
    refine AC.block ?_
    refine AC.loopC [(0, _), (1, _), (4, _), (5, _)] [] (fun (k : Nat) => [(8, .p (.v (.int .i64 (k : Int)))), (7, .p (.v (.int .i64 (sumTo (lookup xs) ns k))))]) (fun (k : Nat) => []) (fun (k : Nat) => k ≤ ns.length) (fun (k : Nat) => ns.length - k) 0 ⟨rfl, rfl, rfl, rfl, trivial⟩ trivial ⟨rfl, rfl, trivial⟩ trivial ?_ (fun k hJ => ?_)
    · exact Nat.zero_le _
    · -- round
      refine AC.seq ?_
      refine AC.seq ?_
      refine AC.region ?_
      refine AO.yld _ (Yld.move rfl) rfl rfl rfl ?_
      refine AO.yld _ (Yld.move rfl) rfl rfl rfl ?_
      refine AO.yld _ (Yld.len Try.underlying80 rfl rfl) rfl rfl rfl ?_
      refine AO.yld _ (Yld.int rfl rfl rfl) rfl rfl rfl ?_
      refine AO.nil ?_
      refine AC.cond _ rfl (fun c18 => ?_) (fun c18 => ?_)
      · -- c18 True
        have hk := lt_of_decM c18
        obtain ⟨x, hx⟩ := get_some hk
        have hrow := map_row (enc := encS) hx
        have hsl := lookups_lim (ns := ns) hok k
        have hll := lookup_lim hok x
        refine AC.skip ?_
        refine AC.seq ?_
        refine AC.block ?_
        refine AC.region ?_
        refine AO.yld _ (Yld.move rfl) rfl rfl rfl ?_
        refine AO.yld _ (Yld.move rfl) rfl rfl rfl ?_
        refine AO.yld _ (Yld.move rfl) rfl rfl rfl ?_
        refine AO.yld _ (Yld.move rfl) rfl rfl rfl ?_
        refine AO.yld _ (Yld.indexSl Try.underlying80 Try.sizeOf9 rfl rfl hrow rfl) rfl rfl rfl ?_
        refine AO.yld _ (Yld.load Try.isAgg9 rfl rfl) rfl rfl rfl ?_
        refine AO.yld _ (Yld.call rfl rfl Try.call114 rfl rfl rfl (spec_l25Size_c (by first | assumption | omega)) rfl) rfl rfl rfl ?_
        refine AO.yld _ (Yld.add rfl rfl (by omega) (by omega)) rfl rfl rfl ?_
        refine AO.yld _ (Yld.assign rfl) rfl rfl rfl ?_
        refine AO.nil ?_
        refine AC.mark ?_
        refine AC.region ?_
        refine AO.yld _ (Yld.move rfl) rfl rfl rfl ?_
        refine AO.yld _ (Yld.add rfl rfl (by omega) (by omega)) rfl rfl rfl ?_
        refine AO.yld _ (Yld.assign rfl) rfl rfl rfl ?_
        refine AO.nil ?_
        refine AC.back ⟨k + 1, ?_, ?_, ⟨?_, ?_, trivial⟩, trivial, ⟨rfl, rfl, rfl, rfl, trivial⟩, trivial⟩
        · exact hk
        · omega
        · rfl
        · show some (AV.p (PV.v (Value.int IntKind.i64 _))) = _; rw [sumTo_succ hx]
      · -- c18 False
        obtain rfl : k = ns.length := by have := ge_of_decM c18; omega
        refine AC.exit rfl ?_
        refine AC.seq ?_
        refine AC.region ?_
        refine AO.yld _ (Yld.move rfl) rfl rfl rfl ?_
        refine AO.yld _ (Yld.assign rfl) rfl rfl rfl ?_
        refine AO.yld _ (Yld.assign rfl) rfl rfl rfl ?_
        refine AO.nil ?_
        refine Pure.retT Try.results57 (RVs.cons (RV.tmp rfl) (RVs.cons (RV.tmp rfl) RVs.nil)) rfl ?_
        first | (exact total_bad (by have h := c13; simp at h; exact h)) | (exact total_ok hok hall h40)

theorem spec_l02Signed_c {a b : Int} (a1 : -9223372036854775808 ≤ a) (a2 : a ≤ 9223372036854775807) (b1 : -9223372036854775808 ≤ b) (b2 : b ≤ 9223372036854775807) :
    Pure Try.prog 122 [.v (.int .i64 a), .v (.int .i64 b)] (.v (.int .i64 (signed a b))) := by
  refine Pure.intro Try.func122 rfl Try.ntmps122 rfl rfl (fun w => ?_)
  refine AC.seq ?_
  refine AC.region ?_
  refine AO.yld _ (Yld.assign rfl) rfl rfl rfl ?_
  refine AO.nil ?_
  refine AC.seq ?_
  refine AC.region ?_
  refine AO.yld _ (Yld.move rfl) rfl rfl rfl ?_
  refine AO.yld _ (Yld.call rfl rfl Try.call139 rfl rfl rfl (spec_l02Normal_c (by omega) (by omega)) rfl) rfl rfl rfl ?_
  refine AO.yld _ (Yld.move rfl) rfl rfl rfl ?_
  refine AO.yld _ (Yld.call rfl rfl Try.call139 rfl rfl rfl (spec_l02Normal_c (by omega) (by omega)) rfl) rfl rfl rfl ?_
  refine AO.yld _ (Yld.sub rfl rfl (by omega) (by omega)) rfl rfl rfl ?_
  refine AO.yld _ (Yld.call rfl rfl Try.call139 rfl rfl rfl (spec_l02Normal_c (by omega) (by omega)) rfl) rfl rfl rfl ?_
  refine AO.yld _ (Yld.assign rfl) rfl rfl rfl ?_
  refine AO.nil ?_
  refine AC.seq ?_
  refine AC.seq ?_
  refine AC.region ?_
  refine AO.yld _ (Yld.move rfl) rfl rfl rfl ?_
  refine AO.yld _ (Yld.int rfl rfl rfl) rfl rfl rfl ?_
  refine AO.nil ?_
  refine AC.cond _ rfl (fun c13 => ?_) (fun c13 => ?_)
  · -- c13 True
    refine AC.region ?_
    refine AO.yld _ (Yld.move rfl) rfl rfl rfl ?_
    refine AO.yld _ (Yld.sub rfl rfl (by omega) (by omega)) rfl rfl rfl ?_
    refine AO.yld _ (Yld.assign rfl) rfl rfl rfl ?_
    refine AO.nil ?_
    refine AC.seq ?_
    refine AC.region ?_
    refine AO.yld _ (Yld.move rfl) rfl rfl rfl ?_
    refine AO.yld _ (Yld.assign rfl) rfl rfl rfl ?_
    refine AO.nil ?_
    refine Pure.ret Try.results122 (RVs.cons (RV.tmp rfl) RVs.nil) rfl ?_
    refine ci ?_; unfold signed; split <;> simp_all <;> omega
  · -- c13 False
    refine AC.skip ?_
    refine AC.seq ?_
    refine AC.region ?_
    refine AO.yld _ (Yld.move rfl) rfl rfl rfl ?_
    refine AO.yld _ (Yld.assign rfl) rfl rfl rfl ?_
    refine AO.nil ?_
    refine Pure.ret Try.results122 (RVs.cons (RV.tmp rfl) RVs.nil) rfl ?_
    refine ci ?_; unfold signed; split <;> simp_all <;> omega

theorem impl_SignedBetween_c {a b : Int} (a1 : -9223372036854775808 ≤ a) (a2 : a ≤ 9223372036854775807) (b1 : -9223372036854775808 ≤ b) (b2 : b ≤ 9223372036854775807) :
    Pure Try.prog 125 [.v (.int .i64 a), .v (.int .i64 b)] (.v (.int .i64 (signed a b))) := by
  refine Pure.intro Try.func125 rfl Try.ntmps125 rfl rfl (fun w => ?_)
  refine AC.seq ?_
  refine AC.region ?_
  refine AO.yld _ (Yld.assign rfl) rfl rfl rfl ?_
  refine AO.nil ?_
  refine AC.seq ?_
  refine AC.region ?_
  refine AO.yld _ (Yld.move rfl) rfl rfl rfl ?_
  refine AO.yld _ (Yld.call rfl rfl Try.call99 rfl rfl rfl (impl_NormalAngle_c (by omega) (by omega)) rfl) rfl rfl rfl ?_
  refine AO.yld _ (Yld.move rfl) rfl rfl rfl ?_
  refine AO.yld _ (Yld.call rfl rfl Try.call99 rfl rfl rfl (impl_NormalAngle_c (by omega) (by omega)) rfl) rfl rfl rfl ?_
  refine AO.yld _ (Yld.sub rfl rfl (by omega) (by omega)) rfl rfl rfl ?_
  refine AO.yld _ (Yld.call rfl rfl Try.call99 rfl rfl rfl (impl_NormalAngle_c (by omega) (by omega)) rfl) rfl rfl rfl ?_
  refine AO.yld _ (Yld.assign rfl) rfl rfl rfl ?_
  refine AO.nil ?_
  refine AC.seq ?_
  refine AC.seq ?_
  refine AC.region ?_
  refine AO.yld _ (Yld.move rfl) rfl rfl rfl ?_
  refine AO.yld _ (Yld.int rfl rfl rfl) rfl rfl rfl ?_
  refine AO.nil ?_
  refine AC.cond _ rfl (fun c13 => ?_) (fun c13 => ?_)
  · -- c13 True
    refine AC.region ?_
    refine AO.yld _ (Yld.move rfl) rfl rfl rfl ?_
    refine AO.yld _ (Yld.sub rfl rfl (by omega) (by omega)) rfl rfl rfl ?_
    refine AO.yld _ (Yld.assign rfl) rfl rfl rfl ?_
    refine AO.nil ?_
    refine AC.seq ?_
    refine AC.region ?_
    refine AO.yld _ (Yld.move rfl) rfl rfl rfl ?_
    refine AO.yld _ (Yld.assign rfl) rfl rfl rfl ?_
    refine AO.nil ?_
    refine Pure.ret Try.results125 (RVs.cons (RV.tmp rfl) RVs.nil) rfl ?_
    refine ci ?_; unfold signed; split <;> simp_all <;> omega
  · -- c13 False
    refine AC.skip ?_
    refine AC.seq ?_
    refine AC.region ?_
    refine AO.yld _ (Yld.move rfl) rfl rfl rfl ?_
    refine AO.yld _ (Yld.assign rfl) rfl rfl rfl ?_
    refine AO.nil ?_
    refine Pure.ret Try.results125 (RVs.cons (RV.tmp rfl) RVs.nil) rfl ?_
    refine ci ?_; unfold signed; split <;> simp_all <;> omega

theorem spec_l01Div_c {a b : Int} (hb : 0 < b) (hb2 : b ≤ 1000000000000) (ha : -1000000000000 ≤ a) (ha2 : a ≤ 1000000000000) :
    Pure Try.prog 154 [.v (.int .i64 a), .v (.int .i64 b)] (.v (.int .i64 (divR a b))) := by
  refine Pure.intro Try.func154 rfl Try.ntmps154 rfl rfl (fun w => ?_)
  refine AC.seq ?_
  refine AC.region ?_
  refine AO.yld _ (Yld.assign rfl) rfl rfl rfl ?_
  refine AO.nil ?_
  refine AC.seq ?_
  refine AC.seq ?_
  refine AC.region ?_
  refine AO.yld _ (Yld.move rfl) rfl rfl rfl ?_
  refine AO.yld _ (Yld.int rfl rfl rfl) rfl rfl rfl ?_
  refine AO.nil ?_
  refine AC.cond _ rfl (fun c6 => ?_) (fun c6 => ?_)
  · -- c6 True
    exfalso; have h := c6; simp at h; omega
  · -- c6 False
    refine AC.skip ?_
    refine AC.seq ?_
    refine AC.seq ?_
    refine AC.region ?_
    refine AO.yld _ (Yld.move rfl) rfl rfl rfl ?_
    refine AO.yld _ (Yld.int rfl rfl rfl) rfl rfl rfl ?_
    refine AO.nil ?_
    refine AC.cond _ rfl (fun c12 => ?_) (fun c12 => ?_)
    · -- c12 True
      have ha9 : a < 0 := by simpa using c12
      have hq9 := Int.tdiv_nonneg (a := b - 2 * a) (b := 2 * b) (by omega) (by omega)
      have hq8 := @tdiv_range (b - 2 * a) (2 * b) (by omega) (by omega) (by omega)
      refine AC.seq ?_
      refine AC.region ?_
      refine AO.yld _ (Yld.move rfl) rfl rfl rfl ?_
      refine AO.yld _ (Yld.move rfl) rfl rfl rfl ?_
      refine AO.yld _ (Yld.mul rfl rfl (by omega) (by omega)) rfl rfl rfl ?_
      refine AO.yld _ (Yld.sub rfl rfl (by omega) (by omega)) rfl rfl rfl ?_
      refine AO.yld _ (Yld.move rfl) rfl rfl rfl ?_
      refine AO.yld _ (Yld.mul rfl rfl (by omega) (by omega)) rfl rfl rfl ?_
      refine AO.yld _ (Yld.quoP rfl rfl (by omega) (by omega) (by omega)) rfl rfl rfl ?_
      refine AO.yld _ (Yld.negN rfl (by omega) (by omega)) rfl rfl rfl ?_
      refine AO.yld _ (Yld.assign rfl) rfl rfl rfl ?_
      refine AO.nil ?_
      refine Pure.ret Try.results154 (RVs.cons (RV.tmp rfl) RVs.nil) rfl ?_
      refine ci ?_; unfold divR; first | rw [if_pos ha9, Int.tdiv_eq_ediv_of_nonneg (by omega)] | rw [if_neg ha9, Int.tdiv_eq_ediv_of_nonneg (by omega)]
    · -- c12 False
      have ha9 : ¬ a < 0 := by simpa using c12
      refine AC.skip ?_
      refine AC.seq ?_
      refine AC.region ?_
      refine AO.yld _ (Yld.move rfl) rfl rfl rfl ?_
      refine AO.yld _ (Yld.mul rfl rfl (by omega) (by omega)) rfl rfl rfl ?_
      refine AO.yld _ (Yld.move rfl) rfl rfl rfl ?_
      refine AO.yld _ (Yld.add rfl rfl (by omega) (by omega)) rfl rfl rfl ?_
      refine AO.yld _ (Yld.move rfl) rfl rfl rfl ?_
      refine AO.yld _ (Yld.mul rfl rfl (by omega) (by omega)) rfl rfl rfl ?_
      refine AO.yld _ (Yld.quoP rfl rfl (by omega) (by omega) (by omega)) rfl rfl rfl ?_
      refine AO.yld _ (Yld.assign rfl) rfl rfl rfl ?_
      refine AO.nil ?_
      refine Pure.ret Try.results154 (RVs.cons (RV.tmp rfl) RVs.nil) rfl ?_
      refine ci ?_; unfold divR; first | rw [if_pos ha9, Int.tdiv_eq_ediv_of_nonneg (by omega)] | rw [if_neg ha9, Int.tdiv_eq_ediv_of_nonneg (by omega)]

theorem impl_nearest_c {a b : Int} (hb : 0 < b) (hb2 : b ≤ 1000000000000) (ha : -1000000000000 ≤ a) (ha2 : a ≤ 1000000000000) :
    Pure Try.prog 167 [.v (.int .i64 a), .v (.int .i64 b)] (.v (.int .i64 (divR a b))) := by
  have hq := @tdiv_range a b (by omega) (by omega) hb
  have hr1 := @tmod_lo a b hb
  have hr2 := @tmod_hi a b hb
  have hr3 := absI_lim (a.tmod b)
  have hab : absI b = b := by unfold absI; split <;> omega
  have hq2 := tdiv_abs (a := a) (b := b) hb
  have ha3 : absI a ≤ 1000000000000 := by unfold absI; split <;> omega
  have hq4 := absI_lim (a.tdiv b)
  refine Pure.intro Try.func167 rfl Try.ntmps167 rfl rfl (fun w => ?_)
  refine AC.seq ?_
  refine AC.region ?_
  refine AO.yld _ (Yld.assign rfl) rfl rfl rfl ?_
  refine AO.nil ?_
  refine AC.seq ?_
  refine AC.draw (by kernel_rfl) (by kernel_rfl) ?_
  refine AO.yld _ (Yld.move rfl) rfl rfl rfl ?_
  refine AO.yld _ (Yld.move rfl) rfl rfl rfl ?_
  refine AO.yld _ (Yld.quoP rfl rfl (by omega) (by omega) (by omega)) rfl rfl rfl ?_
  refine AO.yld _ (Yld.move rfl) rfl rfl rfl ?_
  refine AO.yld _ (Yld.move rfl) rfl rfl rfl ?_
  refine AO.yld _ (Yld.rem rfl rfl (by omega)) rfl rfl rfl ?_
  refine AO.yld _ (Yld.call rfl rfl Try.call124 rfl rfl rfl (impl_absOf_c (by omega) (by omega)) rfl) rfl rfl rfl ?_
  refine AO.yld _ (Yld.assign rfl) rfl rfl rfl ?_
  refine AO.yld _ (Yld.assign rfl) rfl rfl rfl ?_
  refine AO.nil ?_
  refine AC.seq ?_
  refine AC.seq ?_
  refine AC.region ?_
  refine AO.yld _ (Yld.move rfl) rfl rfl rfl ?_
  refine AO.yld _ (Yld.move rfl) rfl rfl rfl ?_
  refine AO.yld _ (Yld.call rfl rfl Try.call124 rfl rfl rfl (impl_absOf_c (by omega) (by omega)) rfl) rfl rfl rfl ?_
  refine AO.yld _ (Yld.move rfl) rfl rfl rfl ?_
  refine AO.yld _ (Yld.sub rfl rfl (by omega) (by omega)) rfl rfl rfl ?_
  refine AO.yld _ (Yld.int rfl rfl rfl) rfl rfl rfl ?_
  refine AO.nil ?_
  refine AC.cond _ rfl (fun c19 => ?_) (fun c19 => ?_)
  · -- c19 True
    refine AC.seq ?_
    refine AC.region ?_
    refine AO.yld _ (Yld.move rfl) rfl rfl rfl ?_
    refine AO.yld _ (Yld.assign rfl) rfl rfl rfl ?_
    refine AO.nil ?_
    refine Pure.ret Try.results167 (RVs.cons (RV.tmp rfl) RVs.nil) rfl ?_
    refine ci ?_
    rw [hab] at *
    first
      | exact (divR_low hb (by simpa using c19)).symm
      | (exact (divR_up hb (by intro h; simp_all; omega) (by simpa using c19)).symm)
      | (exact (divR_down hb (by simp_all; omega) (by simpa using c19)).symm)
  · -- c19 False
    refine AC.skip ?_
    refine AC.seq ?_
    refine AC.seq ?_
    refine AC.region ?_
    refine AO.yld _ (Yld.move rfl) rfl rfl rfl ?_
    refine AO.yld _ (Yld.int rfl rfl rfl) rfl rfl rfl ?_
    refine AO.yld _ (Yld.move rfl) rfl rfl rfl ?_
    refine AO.yld _ (Yld.int rfl rfl rfl) rfl rfl rfl ?_
    refine AO.yld _ (Yld.beq Try.underlying4 rfl rfl) rfl rfl rfl ?_
    refine AO.nil ?_
    refine AC.cond _ rfl (fun c25 => ?_) (fun c25 => ?_)
    · -- c25 True
      refine AC.seq ?_
      refine AC.region ?_
      refine AO.yld _ (Yld.move rfl) rfl rfl rfl ?_
      refine AO.yld _ (Yld.add rfl rfl (by omega) (by omega)) rfl rfl rfl ?_
      refine AO.yld _ (Yld.assign rfl) rfl rfl rfl ?_
      refine AO.nil ?_
      refine Pure.ret Try.results167 (RVs.cons (RV.tmp rfl) RVs.nil) rfl ?_
      refine ci ?_
      rw [hab] at *
      first
        | exact (divR_low hb (by simpa using c19)).symm
        | (exact (divR_up hb (by intro h; simp_all; omega) (by simpa using c19)).symm)
        | (exact (divR_down hb (by simp_all; omega) (by simpa using c19)).symm)
    · -- c25 False
      refine AC.skip ?_
      refine AC.seq ?_
      refine AC.region ?_
      refine AO.yld _ (Yld.move rfl) rfl rfl rfl ?_
      refine AO.yld _ (Yld.sub rfl rfl (by omega) (by omega)) rfl rfl rfl ?_
      refine AO.yld _ (Yld.assign rfl) rfl rfl rfl ?_
      refine AO.nil ?_
      refine Pure.ret Try.results167 (RVs.cons (RV.tmp rfl) RVs.nil) rfl ?_
      refine ci ?_
      rw [hab] at *
      first
        | exact (divR_low hb (by simpa using c19)).symm
        | (exact (divR_up hb (by intro h; simp_all; omega) (by simpa using c19)).symm)
        | (exact (divR_down hb (by simp_all; omega) (by simpa using c19)).symm)

theorem impl_DivRound_c {a b : Int} (hb : 0 < b) (hb2 : b ≤ 1000000000000) (ha : -1000000000000 ≤ a) (ha2 : a ≤ 1000000000000) :
    Pure Try.prog 155 [.v (.int .i64 a), .v (.int .i64 b)] (.v (.int .i64 (divR a b))) := by
  refine Pure.intro Try.func155 rfl Try.ntmps155 rfl rfl (fun w => ?_)
  refine AC.seq ?_
  refine AC.region ?_
  refine AO.yld _ (Yld.assign rfl) rfl rfl rfl ?_
  refine AO.nil ?_
  refine AC.seq ?_
  refine AC.seq ?_
  refine AC.region ?_
  refine AO.yld _ (Yld.move rfl) rfl rfl rfl ?_
  refine AO.yld _ (Yld.int rfl rfl rfl) rfl rfl rfl ?_
  refine AO.yld _ (Yld.move rfl) rfl rfl rfl ?_
  refine AO.splitAt 7 _ rfl (fun s7 => ?_) (fun s7 => ?_)
  · -- s7 True
    refine AO.skipF rfl rfl rfl rfl rfl ?_
    refine AO.skipF rfl rfl rfl rfl rfl ?_
    refine AO.skipF rfl rfl rfl rfl rfl ?_
    refine AO.yld _ (Yld.pickT rfl rfl) rfl rfl rfl ?_
    refine AO.yld _ (Yld.move rfl) rfl rfl rfl ?_
    refine AO.skipF rfl rfl rfl rfl rfl ?_
    refine AO.skipF rfl rfl rfl rfl rfl ?_
    refine AO.skipF rfl rfl rfl rfl rfl ?_
    refine AO.yld _ (Yld.pickT rfl rfl) rfl rfl rfl ?_
    refine AO.nil ?_
    refine AC.condT rfl ?_
    refine AC.seq ?_
    refine AC.region ?_
    refine AO.yld _ (Yld.assign rfl) rfl rfl rfl ?_
    refine AO.nil ?_
    refine Pure.ret Try.results155 (RVs.cons (RV.tmp rfl) RVs.nil) rfl ?_
    first | rfl | (exfalso; simp_all; done) | (exfalso; simp_all; omega)
  · -- s7 False
    refine AO.yldG _ (Yld.move rfl) rfl rfl rfl rfl rfl ?_
    refine AO.yldG _ (Yld.call rfl rfl Try.call70 rfl rfl rfl (impl_within_c) rfl) rfl rfl rfl rfl rfl ?_
    refine AO.yldG _ (Yld.not rfl) rfl rfl rfl rfl rfl ?_
    refine AO.yld _ (Yld.pickF rfl rfl) rfl rfl rfl ?_
    refine AO.yld _ (Yld.move rfl) rfl rfl rfl ?_
    refine AO.splitAt 12 _ rfl (fun s12 => ?_) (fun s12 => ?_)
    · -- s12 True
      refine AO.skipF rfl rfl rfl rfl rfl ?_
      refine AO.skipF rfl rfl rfl rfl rfl ?_
      refine AO.skipF rfl rfl rfl rfl rfl ?_
      refine AO.yld _ (Yld.pickT rfl rfl) rfl rfl rfl ?_
      refine AO.nil ?_
      refine AC.condT rfl ?_
      refine AC.seq ?_
      refine AC.region ?_
      refine AO.yld _ (Yld.assign rfl) rfl rfl rfl ?_
      refine AO.nil ?_
      refine Pure.ret Try.results155 (RVs.cons (RV.tmp rfl) RVs.nil) rfl ?_
      first | rfl | (exfalso; simp_all; done) | (exfalso; simp_all; omega)
    · -- s12 False
      refine AO.yldG _ (Yld.move rfl) rfl rfl rfl rfl rfl ?_
      refine AO.yldG _ (Yld.call rfl rfl Try.call70 rfl rfl rfl (impl_within_c) rfl) rfl rfl rfl rfl rfl ?_
      refine AO.yldG _ (Yld.not rfl) rfl rfl rfl rfl rfl ?_
      refine AO.yld _ (Yld.pickF rfl rfl) rfl rfl rfl ?_
      refine AO.nil ?_
      refine AC.cond _ rfl (fun c16 => ?_) (fun c16 => ?_)
      · -- c16 True
        refine AC.seq ?_
        refine AC.region ?_
        refine AO.yld _ (Yld.assign rfl) rfl rfl rfl ?_
        refine AO.nil ?_
        refine Pure.ret Try.results155 (RVs.cons (RV.tmp rfl) RVs.nil) rfl ?_
        first | rfl | (exfalso; simp_all; done) | (exfalso; simp_all; omega)
      · -- c16 False
        refine AC.skip ?_
        refine AC.seq ?_
        refine AC.region ?_
        refine AO.yld _ (Yld.move rfl) rfl rfl rfl ?_
        refine AO.yld _ (Yld.move rfl) rfl rfl rfl ?_
        refine AO.yld _ (Yld.call rfl rfl Try.call167 rfl rfl rfl (impl_nearest_c (by omega) (by omega) (by omega) (by omega)) rfl) rfl rfl rfl ?_
        refine AO.yld _ (Yld.assign rfl) rfl rfl rfl ?_
        refine AO.nil ?_
        refine Pure.ret Try.results155 (RVs.cons (RV.tmp rfl) RVs.nil) rfl ?_
        first | rfl | (exfalso; simp_all; done) | (exfalso; simp_all; omega)

theorem spec_l28Ask_c {xs : List CMark} (hn : xs.length ≤ 1048576) (hw : ∀ x ∈ xs, i64b x.az ∧ i64b x.al ∧ i64b x.found ∧ i64b x.height) :
    Pure Try.prog 93 [.sl 4 (xs.map encCMark)] (.v (.int .i64 (askMarks xs))) := by
  refine Pure.intro Try.func93 rfl Try.ntmps93 rfl rfl (fun w => ?_)
  refine AC.seq ?_
  refine AC.region ?_
  refine AO.yld _ (Yld.assign rfl) rfl rfl rfl ?_
  refine AO.nil ?_
  refine AC.seq ?_
  refine AC.seq ?_
  refine AC.region ?_
  refine AO.yld _ (Yld.assign rfl) rfl rfl rfl ?_
  refine AO.nil ?_
  refine AC.block ?_
  refine AC.loopC [(0, _)] [] (fun (k : Nat) => [(3, .p (.v (.int .i64 (k : Int))))]) (fun (k : Nat) => []) (fun (k : Nat) => k ≤ xs.length ∧ allTo okMark xs k = true) (fun (k : Nat) => xs.length - k) 0 ⟨rfl, trivial⟩ trivial ⟨rfl, trivial⟩ trivial ?_ (fun k hJ => ?_)
  · exact ⟨Nat.zero_le _, rfl⟩
  · -- round
    refine AC.seq ?_
    refine AC.seq ?_
    refine AC.region ?_
    refine AO.yld _ (Yld.move rfl) rfl rfl rfl ?_
    refine AO.yld _ (Yld.move rfl) rfl rfl rfl ?_
    refine AO.yld _ (Yld.len Try.underlying55 rfl rfl) rfl rfl rfl ?_
    refine AO.yld _ (Yld.int rfl rfl rfl) rfl rfl rfl ?_
    refine AO.nil ?_
    refine AC.cond _ rfl (fun c7 => ?_) (fun c7 => ?_)
    · -- c7 True
      have hk := lt_of_decM c7
      obtain ⟨x, hx⟩ := get_some hk
      have hrow := map_row (enc := encCMark) hx
      refine AC.skip ?_
      refine AC.seq ?_
      refine AC.block ?_
      refine AC.seq ?_
      refine AC.region ?_
      refine AO.yld _ (Yld.move rfl) rfl rfl rfl ?_
      refine AO.yld _ (Yld.move rfl) rfl rfl rfl ?_
      refine AO.yld _ (Yld.indexSl Try.underlying55 Try.sizeOf134 rfl rfl hrow rfl) rfl rfl rfl ?_
      refine AO.yld _ (Yld.call rfl rfl Try.call138 rfl rfl rfl (spec_l28One_c (hw x (List.mem_of_getElem? hx)).1 (hw x (List.mem_of_getElem? hx)).2.1 (hw x (List.mem_of_getElem? hx)).2.2.1 (hw x (List.mem_of_getElem? hx)).2.2.2) rfl) rfl rfl rfl ?_
      refine AO.yld _ (Yld.not rfl) rfl rfl rfl ?_
      refine AO.nil ?_
      refine AC.cond _ rfl (fun c14 => ?_) (fun c14 => ?_)
      · -- c14 True
        refine AC.seq ?_
        refine AC.region ?_
        refine AO.yld _ (Yld.assign rfl) rfl rfl rfl ?_
        refine AO.nil ?_
        refine Pure.ret Try.results93 (RVs.cons (RV.tmp rfl) RVs.nil) rfl ?_
        first
          | (have e : xs.all okMark = false := all_miss hx (by simpa using c14)
             simp [askMarks, e])
          | (have e : (decide (1 ≤ xs.length) && decide (xs.length ≤ 24)) = false := by (first | (have h := c22; simp only [List.length_map] at h; grind) | (have h := s18; simp only [List.length_map] at h; grind))
             simp only [askMarks, hall, e]; rfl)
          | (have e : (decide (1 ≤ xs.length) && decide (xs.length ≤ 24)) = true := by (have h := c22; simp only [List.length_map] at h; grind)
             simp only [askMarks, hall, e]; rfl)
      · -- c14 False
        refine AC.skip ?_
        refine AC.mark ?_
        refine AC.region ?_
        refine AO.yld _ (Yld.move rfl) rfl rfl rfl ?_
        refine AO.yld _ (Yld.add rfl rfl (by omega) (by omega)) rfl rfl rfl ?_
        refine AO.yld _ (Yld.assign rfl) rfl rfl rfl ?_
        refine AO.nil ?_
        refine AC.back ⟨k + 1, ?_, ?_, ⟨?_, trivial⟩, trivial, ⟨rfl, trivial⟩, trivial⟩
        · exact ⟨hk, by rw [allTo_succ hx, hJ.2]; simpa using c14⟩
        · omega
        · rfl
    · -- c7 False
      obtain rfl : k = xs.length := by have := ge_of_decM c7; omega
      have hall : xs.all okMark = true := by rw [← allTo_all]; exact hJ.2
      refine AC.exit rfl ?_
      refine AC.seq ?_
      refine AC.seq ?_
      refine AC.region ?_
      refine AO.yld _ (Yld.move rfl) rfl rfl rfl ?_
      refine AO.yld _ (Yld.len Try.underlying55 rfl rfl) rfl rfl rfl ?_
      refine AO.yld _ (Yld.int rfl rfl rfl) rfl rfl rfl ?_
      refine AO.yld _ (Yld.move rfl) rfl rfl rfl ?_
      refine AO.splitAt 18 _ rfl (fun s18 => ?_) (fun s18 => ?_)
      · -- s18 True
        refine AO.skipF rfl rfl rfl rfl rfl ?_
        refine AO.skipF rfl rfl rfl rfl rfl ?_
        refine AO.skipF rfl rfl rfl rfl rfl ?_
        refine AO.yld _ (Yld.pickT rfl rfl) rfl rfl rfl ?_
        refine AO.nil ?_
        refine AC.condT rfl ?_
        refine AC.seq ?_
        refine AC.region ?_
        refine AO.yld _ (Yld.assign rfl) rfl rfl rfl ?_
        refine AO.nil ?_
        refine Pure.ret Try.results93 (RVs.cons (RV.tmp rfl) RVs.nil) rfl ?_
        first
          | (have e : xs.all okMark = false := all_miss hx (by simpa using c14)
             simp [askMarks, e])
          | (have e : (decide (1 ≤ xs.length) && decide (xs.length ≤ 24)) = false := by (first | (have h := c22; simp only [List.length_map] at h; grind) | (have h := s18; simp only [List.length_map] at h; grind))
             simp only [askMarks, hall, e]; rfl)
          | (have e : (decide (1 ≤ xs.length) && decide (xs.length ≤ 24)) = true := by (have h := c22; simp only [List.length_map] at h; grind)
             simp only [askMarks, hall, e]; rfl)
      · -- s18 False
        refine AO.yldG _ (Yld.move rfl) rfl rfl rfl rfl rfl ?_
        refine AO.yldG _ (Yld.len Try.underlying55 rfl rfl) rfl rfl rfl rfl rfl ?_
        refine AO.yldG _ (Yld.int rfl rfl rfl) rfl rfl rfl rfl rfl ?_
        refine AO.yld _ (Yld.pickF rfl rfl) rfl rfl rfl ?_
        refine AO.nil ?_
        refine AC.cond _ rfl (fun c22 => ?_) (fun c22 => ?_)
        · -- c22 True
          refine AC.seq ?_
          refine AC.region ?_
          refine AO.yld _ (Yld.assign rfl) rfl rfl rfl ?_
          refine AO.nil ?_
          refine Pure.ret Try.results93 (RVs.cons (RV.tmp rfl) RVs.nil) rfl ?_
          first
            | (have e : xs.all okMark = false := all_miss hx (by simpa using c14)
               simp [askMarks, e])
            | (have e : (decide (1 ≤ xs.length) && decide (xs.length ≤ 24)) = false := by (first | (have h := c22; simp only [List.length_map] at h; grind) | (have h := s18; simp only [List.length_map] at h; grind))
               simp only [askMarks, hall, e]; rfl)
            | (have e : (decide (1 ≤ xs.length) && decide (xs.length ≤ 24)) = true := by (have h := c22; simp only [List.length_map] at h; grind)
               simp only [askMarks, hall, e]; rfl)
        · -- c22 False
          refine AC.skip ?_
          refine AC.seq ?_
          refine AC.region ?_
          refine AO.yld _ (Yld.assign rfl) rfl rfl rfl ?_
          refine AO.nil ?_
          refine Pure.ret Try.results93 (RVs.cons (RV.tmp rfl) RVs.nil) rfl ?_
          first
            | (have e : xs.all okMark = false := all_miss hx (by simpa using c14)
               simp [askMarks, e])
            | (have e : (decide (1 ≤ xs.length) && decide (xs.length ≤ 24)) = false := by (first | (have h := c22; simp only [List.length_map] at h; grind) | (have h := s18; simp only [List.length_map] at h; grind))
               simp only [askMarks, hall, e]; rfl)
            | (have e : (decide (1 ≤ xs.length) && decide (xs.length ≤ 24)) = true := by (have h := c22; simp only [List.length_map] at h; grind)
               simp only [askMarks, hall, e]; rfl)

theorem indexFuncMark_c {xs : List CMark} {f : FuncId} {caps : List PV} {p : CMark → Bool} (hn : xs.length ≤ 1048576) (hf : Enters Try.prog f) (hp : ∀ x ∈ xs, Pure Try.prog f (.agg (encCMark x) :: caps) (.v (.bool (p x)))) :
    Pure Try.prog 165 [.sl 4 (xs.map encCMark), .clo f caps] (.v (.int .i64 (idxOf p xs))) := by
  refine Pure.intro Try.func165 rfl Try.ntmps165 rfl rfl (fun w => ?_)
  refine AC.seq ?_
  refine AC.region ?_
  refine AO.yld _ (Yld.assign rfl) rfl rfl rfl ?_
  refine AO.nil ?_
  refine AC.seq ?_
  refine AC.seq ?_
  refine AC.region ?_
  refine AO.yld _ (Yld.move rfl) rfl rfl rfl ?_
  refine AO.yld _ (Yld.len Try.underlying55 rfl rfl) rfl rfl rfl ?_
  refine AO.yld _ (Yld.move rfl) rfl rfl rfl ?_
  refine AO.nil ?_
  refine AC.block ?_
  refine AC.loopC [(0, _), (1, _), (7, _)] [] (fun (k : Nat) => [(8, .p (.v (.int .i64 (k : Int))))]) (fun (k : Nat) => []) (fun (k : Nat) => k ≤ xs.length ∧ anyTo p xs k = false) (fun (k : Nat) => xs.length - k) 0 ⟨rfl, rfl, rfl, trivial⟩ trivial ⟨rfl, trivial⟩ trivial ?_ (fun k hJ => ?_)
  · exact ⟨Nat.zero_le _, rfl⟩
  · -- round
    refine AC.seq ?_
    refine AC.region ?_
    refine AO.yld _ (Yld.int rfl rfl rfl) rfl rfl rfl ?_
    refine AO.nil ?_
    refine AC.seq ?_
    refine AC.cond _ rfl (fun c9 => ?_) (fun c9 => ?_)
    · -- c9 True
      have hk := lt_of_decM c9
      obtain ⟨x, hx⟩ := get_some hk
      have hrow := map_row (enc := encCMark) hx
      refine AC.skip ?_
      refine AC.seq ?_
      refine AC.block ?_
      refine AC.seq ?_
      refine AC.region ?_
      refine AO.yld _ (Yld.move rfl) rfl rfl rfl ?_
      refine AO.yld _ (Yld.assign rfl) rfl rfl rfl ?_
      refine AO.nil ?_
      refine AC.seq ?_
      refine AC.region ?_
      refine AO.yld _ (Yld.move rfl) rfl rfl rfl ?_
      refine AO.yld _ (Yld.move rfl) rfl rfl rfl ?_
      refine AO.yld _ (Yld.move rfl) rfl rfl rfl ?_
      refine AO.yld _ (Yld.indexSl Try.underlying55 Try.sizeOf134 rfl rfl hrow rfl) rfl rfl rfl ?_
      refine AO.yld _ (Yld.loadAgg Try.isAgg134 Try.sizeOf134 rfl rfl rfl rfl) rfl rfl rfl ?_
      refine AO.yld _ (Yld.call rfl rfl hf rfl rfl (viewL_p _) (hp x (List.mem_of_getElem? hx)) rfl) rfl rfl rfl ?_
      refine AO.nil ?_
      refine AC.cond _ rfl (fun c16 => ?_) (fun c16 => ?_)
      · -- c16 True
        refine AC.seq ?_
        refine AC.region ?_
        refine AO.yld _ (Yld.move rfl) rfl rfl rfl ?_
        refine AO.yld _ (Yld.assign rfl) rfl rfl rfl ?_
        refine AO.nil ?_
        refine Pure.ret Try.results165 (RVs.cons (RV.tmp rfl) RVs.nil) rfl ?_
        first
          | exact ci (idx_hit hJ.2 hx (by simpa using c16))
          | exact ci (idx_miss hJ.2)
      · -- c16 False
        refine AC.skip ?_
        refine AC.mark ?_
        refine AC.region ?_
        refine AO.yld _ (Yld.add rfl rfl (by omega) (by omega)) rfl rfl rfl ?_
        refine AO.yld _ (Yld.move rfl) rfl rfl rfl ?_
        refine AO.nil ?_
        refine AC.back ⟨k + 1, ?_, ?_, ⟨?_, trivial⟩, trivial, ⟨rfl, rfl, rfl, trivial⟩, trivial⟩
        · exact ⟨hk, by rw [anyTo_succ hx, hJ.2]; simpa using c16⟩
        · omega
        · rfl
    · -- c9 False
      obtain rfl : k = xs.length := by have := ge_of_decM c9; omega
      refine AC.exit rfl ?_
      refine AC.seq ?_
      refine AC.region ?_
      refine AO.yld _ (Yld.assign rfl) rfl rfl rfl ?_
      refine AO.nil ?_
      refine Pure.ret Try.results165 (RVs.cons (RV.tmp rfl) RVs.nil) rfl ?_
      first
        | exact ci (idx_hit hJ.2 hx (by simpa using c16))
        | exact ci (idx_miss hJ.2)

theorem containsFuncMark_c {xs : List CMark} {f : FuncId} {caps : List PV} {p : CMark → Bool} (hn : xs.length ≤ 1048576) (hf : Enters Try.prog f) (hp : ∀ x ∈ xs, Pure Try.prog f (.agg (encCMark x) :: caps) (.v (.bool (p x)))) :
    Pure Try.prog 142 [.sl 4 (xs.map encCMark), .clo f caps] (.v (.bool (xs.any p))) := by
  refine Pure.intro Try.func142 rfl Try.ntmps142 rfl rfl (fun w => ?_)
  refine AC.seq ?_
  refine AC.region ?_
  refine AO.yld _ (Yld.assign rfl) rfl rfl rfl ?_
  refine AO.nil ?_
  refine AC.seq ?_
  refine AC.region ?_
  refine AO.yld _ (Yld.move rfl) rfl rfl rfl ?_
  refine AO.yld _ (Yld.move rfl) rfl rfl rfl ?_
  refine AO.yld _ (Yld.call rfl rfl Try.call165 rfl rfl rfl (indexFuncMark_c (by first | assumption | omega) hf hp) rfl) rfl rfl rfl ?_
  refine AO.yld _ (Yld.int rfl rfl rfl) rfl rfl rfl ?_
  refine AO.yld _ (Yld.assign rfl) rfl rfl rfl ?_
  refine AO.nil ?_
  refine Pure.ret Try.results142 (RVs.cons (RV.tmp rfl) RVs.nil) rfl ?_
  exact cb idx_any.symm

theorem checkMarks1_c {x : CMark} (hw : i64b x.az ∧ i64b x.al ∧ i64b x.found ∧ i64b x.height) :
    Pure Try.prog 143 [.agg (encCMark x)] (.v (.bool (!okMark x))) := by
  refine Pure.intro Try.func143 rfl Try.ntmps143 rfl rfl (fun w => ?_)
  refine AC.seq ?_
  refine AC.region ?_
  refine AO.box 0 rfl rfl rfl rfl rfl ?_
  refine AO.yld _ (Yld.assign rfl) rfl rfl rfl ?_
  refine AO.nil ?_
  refine AC.seq ?_
  refine AC.region ?_
  refine AO.yld _ (Yld.loadAgg Try.isAgg134 Try.sizeOf134 rfl rfl rfl rfl) rfl rfl rfl ?_
  refine AO.yld _ (Yld.call rfl rfl Try.call100 rfl rfl rfl (impl_ValidMark_c hw.1 hw.2.1 hw.2.2.1 hw.2.2.2) rfl) rfl rfl rfl ?_
  refine AO.yld _ (Yld.not rfl) rfl rfl rfl ?_
  refine AO.yld _ (Yld.assign rfl) rfl rfl rfl ?_
  refine AO.nil ?_
  refine Pure.ret Try.results143 (RVs.cons (RV.tmp rfl) RVs.nil) rfl ?_
  rfl

theorem impl_checkMarks_c {xs : List CMark} (hn : xs.length ≤ 1048576) (hw : ∀ x ∈ xs, i64b x.az ∧ i64b x.al ∧ i64b x.found ∧ i64b x.height) :
    Pure Try.prog 97 [.sl 4 (xs.map encCMark)] (.v (.int .i64 (askMarks xs))) := by
  refine Pure.intro Try.func97 rfl Try.ntmps97 rfl rfl (fun w => ?_)
  refine AC.seq ?_
  refine AC.region ?_
  refine AO.yld _ (Yld.assign rfl) rfl rfl rfl ?_
  refine AO.nil ?_
  refine AC.seq ?_
  refine AC.block ?_
  refine AC.seq ?_
  refine AC.region ?_
  refine AO.yld _ (Yld.move rfl) rfl rfl rfl ?_
  refine AO.yld _ (Yld.call rfl rfl Try.call142 rfl rfl rfl (containsFuncMark_c (p := fun x => !okMark x) (by omega) Try.call143 (fun x hx => checkMarks1_c (hw x hx))) rfl) rfl rfl rfl ?_
  refine AO.yld _ (Yld.assign rfl) rfl rfl rfl ?_
  refine AO.nil ?_
  refine AC.cond _ rfl (fun c3 => ?_) (fun c3 => ?_)
  · -- c3 True
    refine AC.seq ?_
    refine AC.region ?_
    refine AO.yld _ (Yld.assign rfl) rfl rfl rfl ?_
    refine AO.nil ?_
    refine Pure.ret Try.results97 (RVs.cons (RV.tmp rfl) RVs.nil) rfl ?_
    refine ci ?_; unfold askMarks; simp only [all_not] at *; simp_all
    try grind
  · -- c3 False
    refine AC.seq ?_
    refine AC.region ?_
    refine AO.yld _ (Yld.move rfl) rfl rfl rfl ?_
    refine AO.yld _ (Yld.len Try.underlying55 rfl rfl) rfl rfl rfl ?_
    refine AO.yld _ (Yld.call rfl rfl Try.call70 rfl rfl rfl (impl_within_c) rfl) rfl rfl rfl ?_
    refine AO.yld _ (Yld.not rfl) rfl rfl rfl ?_
    refine AO.yld _ (Yld.assign rfl) rfl rfl rfl ?_
    refine AO.nil ?_
    refine AC.cond _ rfl (fun c6 => ?_) (fun c6 => ?_)
    · -- c6 True
      refine AC.seq ?_
      refine AC.region ?_
      refine AO.yld _ (Yld.assign rfl) rfl rfl rfl ?_
      refine AO.nil ?_
      refine Pure.ret Try.results97 (RVs.cons (RV.tmp rfl) RVs.nil) rfl ?_
      refine ci ?_; unfold askMarks; simp only [all_not] at *; simp_all
      try grind
    · -- c6 False
      refine AC.skip ?_
      refine AC.mark ?_
      refine AC.seq ?_
      refine AC.region ?_
      refine AO.yld _ (Yld.assign rfl) rfl rfl rfl ?_
      refine AO.nil ?_
      refine Pure.ret Try.results97 (RVs.cons (RV.tmp rfl) RVs.nil) rfl ?_
      refine ci ?_; unfold askMarks; simp only [all_not] at *; simp_all
      try grind

theorem spec_l28Fit_c {xs : List CMark} (hn : 1 ≤ xs.length ∧ xs.length ≤ 24) (hok : xs.all okMark = true) :
    Pure Try.prog 120 [.sl 4 (xs.map encCMark)] (.tup [.v (.int .i64 (divR (sumTo turnOf xs xs.length) xs.length)), .v (.int .i64 (divR (sumTo liftOf xs xs.length) xs.length))]) := by
  refine Pure.intro Try.func120 rfl Try.ntmps120 rfl rfl (fun w => ?_)
  refine AC.seq ?_
  refine AC.region ?_
  refine AO.yld _ (Yld.assign rfl) rfl rfl rfl ?_
  refine AO.yld _ (Yld.assign rfl) rfl rfl rfl ?_
  refine AO.nil ?_
  refine AC.seq ?_
  refine AC.region ?_
  refine AO.yld _ (Yld.assign rfl) rfl rfl rfl ?_
  refine AO.nil ?_
  refine AC.seq ?_
  refine AC.region ?_
  refine AO.yld _ (Yld.assign rfl) rfl rfl rfl ?_
  refine AO.nil ?_
  refine AC.seq ?_
  refine AC.seq ?_
  refine AC.region ?_
  refine AO.yld _ (Yld.assign rfl) rfl rfl rfl ?_
  refine AO.nil ?_
  refine AC.block ?_
  refine AC.loopC [(0, _), (2, _), (3, _)] [] (fun (k : Nat) => [(6, .p (.v (.int .i64 (k : Int)))), (4, .p (.v (.int .i64 (sumTo turnOf xs k)))), (5, .p (.v (.int .i64 (sumTo liftOf xs k))))]) (fun (k : Nat) => []) (fun (k : Nat) => k ≤ xs.length) (fun (k : Nat) => xs.length - k) 0 ⟨rfl, rfl, rfl, trivial⟩ trivial ⟨rfl, rfl, rfl, trivial⟩ trivial ?_ (fun k hJ => ?_)
  · exact Nat.zero_le _
  · -- round
    refine AC.seq ?_
    refine AC.seq ?_
    refine AC.region ?_
    refine AO.yld _ (Yld.move rfl) rfl rfl rfl ?_
    refine AO.yld _ (Yld.move rfl) rfl rfl rfl ?_
    refine AO.yld _ (Yld.len Try.underlying55 rfl rfl) rfl rfl rfl ?_
    refine AO.yld _ (Yld.int rfl rfl rfl) rfl rfl rfl ?_
    refine AO.nil ?_
    refine AC.cond _ rfl (fun c11 => ?_) (fun c11 => ?_)
    · -- c11 True
      have hk := lt_of_decM c11
      obtain ⟨x, hx⟩ := get_some hk
      have hrow := map_row (enc := encCMark) hx
      have h1 := turn_lim xs k
      have h2 := lift_lim hok k
      have h3 := mark_lim (all_at hok hx)
      have h4 := signed_lim x.found x.az
      refine AC.skip ?_
      refine AC.seq ?_
      refine AC.block ?_
      refine AC.seq ?_
      refine AC.draw (by kernel_rfl) (by kernel_rfl) ?_
      refine AO.yld _ (Yld.move rfl) rfl rfl rfl ?_
      refine AO.yld _ (Yld.move rfl) rfl rfl rfl ?_
      refine AO.yld _ (Yld.move rfl) rfl rfl rfl ?_
      refine AO.yld _ (Yld.indexSl Try.underlying55 Try.sizeOf134 rfl rfl hrow rfl) rfl rfl rfl ?_
      refine AO.yld _ (Yld.fieldAddr Try.underlying134 rfl rfl Try.sizeOf2 rfl rfl rfl) rfl rfl rfl ?_
      refine AO.yld _ (Yld.load Try.isAgg2 rfl rfl) rfl rfl rfl ?_
      refine AO.yld _ (Yld.move rfl) rfl rfl rfl ?_
      refine AO.yld _ (Yld.move rfl) rfl rfl rfl ?_
      refine AO.yld _ (Yld.indexSl Try.underlying55 Try.sizeOf134 rfl rfl hrow rfl) rfl rfl rfl ?_
      refine AO.yld _ (Yld.fieldAddr Try.underlying134 rfl rfl Try.sizeOf2 rfl rfl rfl) rfl rfl rfl ?_
      refine AO.yld _ (Yld.load Try.isAgg2 rfl rfl) rfl rfl rfl ?_
      refine AO.yld _ (Yld.call rfl rfl Try.call122 rfl rfl rfl (spec_l02Signed_c (by omega) (by omega) (by omega) (by omega)) rfl) rfl rfl rfl ?_
      refine AO.yld _ (Yld.add rfl rfl (by omega) (by omega)) rfl rfl rfl ?_
      refine AO.yld _ (Yld.assign rfl) rfl rfl rfl ?_
      refine AO.nil ?_
      refine AC.draw (by kernel_rfl) (by kernel_rfl) ?_
      refine AO.yld _ (Yld.move rfl) rfl rfl rfl ?_
      refine AO.yld _ (Yld.move rfl) rfl rfl rfl ?_
      refine AO.yld _ (Yld.move rfl) rfl rfl rfl ?_
      refine AO.yld _ (Yld.indexSl Try.underlying55 Try.sizeOf134 rfl rfl hrow rfl) rfl rfl rfl ?_
      refine AO.yld _ (Yld.fieldAddr Try.underlying134 rfl rfl Try.sizeOf2 rfl rfl rfl) rfl rfl rfl ?_
      refine AO.yld _ (Yld.load Try.isAgg2 rfl rfl) rfl rfl rfl ?_
      refine AO.yld _ (Yld.move rfl) rfl rfl rfl ?_
      refine AO.yld _ (Yld.move rfl) rfl rfl rfl ?_
      refine AO.yld _ (Yld.indexSl Try.underlying55 Try.sizeOf134 rfl rfl hrow rfl) rfl rfl rfl ?_
      refine AO.yld _ (Yld.fieldAddr Try.underlying134 rfl rfl Try.sizeOf2 rfl rfl rfl) rfl rfl rfl ?_
      refine AO.yld _ (Yld.load Try.isAgg2 rfl rfl) rfl rfl rfl ?_
      refine AO.yld _ (Yld.sub rfl rfl (by omega) (by omega)) rfl rfl rfl ?_
      refine AO.yld _ (Yld.add rfl rfl (by omega) (by omega)) rfl rfl rfl ?_
      refine AO.yld _ (Yld.assign rfl) rfl rfl rfl ?_
      refine AO.nil ?_
      refine AC.mark ?_
      refine AC.region ?_
      refine AO.yld _ (Yld.move rfl) rfl rfl rfl ?_
      refine AO.yld _ (Yld.add rfl rfl (by omega) (by omega)) rfl rfl rfl ?_
      refine AO.yld _ (Yld.assign rfl) rfl rfl rfl ?_
      refine AO.nil ?_
      refine AC.back ⟨k + 1, ?_, ?_, ⟨?_, ?_, ?_, trivial⟩, trivial, ⟨rfl, rfl, rfl, trivial⟩, trivial⟩
      · exact hk
      · omega
      · rfl
      · show some (AV.p (PV.v (Value.int IntKind.i64 _))) = _; rw [sumTo_succ hx]; rfl
      · show some (AV.p (PV.v (Value.int IntKind.i64 _))) = _; rw [sumTo_succ hx]; rfl
    · -- c11 False
      obtain rfl : k = xs.length := by have := ge_of_decM c11; omega
      have h1 := turn_lim xs xs.length
      have h2 := lift_lim hok xs.length
      refine AC.exit rfl ?_
      refine AC.seq ?_
      refine AC.region ?_
      refine AO.yld _ (Yld.move rfl) rfl rfl rfl ?_
      refine AO.yld _ (Yld.len Try.underlying55 rfl rfl) rfl rfl rfl ?_
      refine AO.yld _ (Yld.assign rfl) rfl rfl rfl ?_
      refine AO.nil ?_
      refine AC.seq ?_
      refine AC.region ?_
      refine AO.yld _ (Yld.move rfl) rfl rfl rfl ?_
      refine AO.yld _ (Yld.move rfl) rfl rfl rfl ?_
      refine AO.yld _ (Yld.call rfl rfl Try.call154 rfl rfl rfl (spec_l01Div_c (by simp only [List.length_map]; omega) (by simp only [List.length_map]; omega) (by omega) (by omega)) rfl) rfl rfl rfl ?_
      refine AO.yld _ (Yld.move rfl) rfl rfl rfl ?_
      refine AO.yld _ (Yld.move rfl) rfl rfl rfl ?_
      refine AO.yld _ (Yld.call rfl rfl Try.call154 rfl rfl rfl (spec_l01Div_c (by simp only [List.length_map]; omega) (by simp only [List.length_map]; omega) (by omega) (by omega)) rfl) rfl rfl rfl ?_
      refine AO.yld _ (Yld.assign rfl) rfl rfl rfl ?_
      refine AO.yld _ (Yld.assign rfl) rfl rfl rfl ?_
      refine AO.nil ?_
      refine Pure.retT Try.results120 (RVs.cons (RV.tmp rfl) (RVs.cons (RV.tmp rfl) RVs.nil)) rfl ?_
      simp only [List.length_map]

theorem impl_fitMarks_c {xs : List CMark} (hn : 1 ≤ xs.length ∧ xs.length ≤ 24) (hok : xs.all okMark = true) :
    Pure Try.prog 123 [.sl 4 (xs.map encCMark)] (.tup [.v (.int .i64 (divR (sumTo turnOf xs xs.length) xs.length)), .v (.int .i64 (divR (sumTo liftOf xs xs.length) xs.length))]) := by
  refine Pure.intro Try.func123 rfl Try.ntmps123 rfl rfl (fun w => ?_)
  refine AC.seq ?_
  refine AC.region ?_
  refine AO.yld _ (Yld.assign rfl) rfl rfl rfl ?_
  refine AO.yld _ (Yld.assign rfl) rfl rfl rfl ?_
  refine AO.nil ?_
  refine AC.seq ?_
  refine AC.region ?_
  refine AO.yld _ (Yld.assign rfl) rfl rfl rfl ?_
  refine AO.yld _ (Yld.assign rfl) rfl rfl rfl ?_
  refine AO.nil ?_
  refine AC.seq ?_
  refine AC.seq ?_
  refine AC.region ?_
  refine AO.yld _ (Yld.move rfl) rfl rfl rfl ?_
  refine AO.yld _ (Yld.len Try.underlying55 rfl rfl) rfl rfl rfl ?_
  refine AO.yld _ (Yld.move rfl) rfl rfl rfl ?_
  refine AO.nil ?_
  refine AC.block ?_
  refine AC.loopC [(0, _), (2, _), (3, _), (9, _), (10, _)] [] (fun (k : Nat) => [(11, .p (.v (.int .i64 (k : Int)))), (4, .p (.v (.int .i64 (sumTo turnOf xs k)))), (5, .p (.v (.int .i64 (sumTo liftOf xs k))))]) (fun (k : Nat) => []) (fun (k : Nat) => k ≤ xs.length) (fun (k : Nat) => xs.length - k) 0 ⟨rfl, rfl, rfl, rfl, rfl, trivial⟩ trivial ⟨rfl, rfl, rfl, trivial⟩ trivial ?_ (fun k hJ => ?_)
  · exact Nat.zero_le _
  · -- round
    refine AC.seq ?_
    refine AC.region ?_
    refine AO.yld _ (Yld.int rfl rfl rfl) rfl rfl rfl ?_
    refine AO.nil ?_
    refine AC.seq ?_
    refine AC.cond _ rfl (fun c12 => ?_) (fun c12 => ?_)
    · -- c12 True
      have hk := lt_of_decM c12
      obtain ⟨x, hx⟩ := get_some hk
      have hrow := map_row (enc := encCMark) hx
      have h1 := turn_lim xs k
      have h2 := lift_lim hok k
      have h3 := mark_lim (all_at hok hx)
      have h4 := signed_lim x.found x.az
      refine AC.skip ?_
      refine AC.seq ?_
      refine AC.block ?_
      refine AC.seq ?_
      refine AC.region ?_
      refine AO.yld _ (Yld.indexSl Try.underlying55 Try.sizeOf134 rfl rfl hrow rfl) rfl rfl rfl ?_
      refine AO.yld _ (Yld.loadAgg Try.isAgg134 Try.sizeOf134 rfl rfl rfl rfl) rfl rfl rfl ?_
      refine AO.alloc 0 Try.zeroValue134 rfl rfl rfl ?_
      refine AO.store Try.sizeOf134 rfl rfl rfl rfl rfl rfl ?_
      refine AO.nil ?_
      refine AC.seq ?_
      refine AC.region ?_
      refine AO.yld _ (Yld.move rfl) rfl rfl rfl ?_
      refine AO.yld _ (Yld.fieldAddr Try.underlying134 rfl rfl Try.sizeOf2 rfl rfl rfl) rfl rfl rfl ?_
      refine AO.yld _ (Yld.load Try.isAgg2 rfl rfl) rfl rfl rfl ?_
      refine AO.yld _ (Yld.fieldAddr Try.underlying134 rfl rfl Try.sizeOf2 rfl rfl rfl) rfl rfl rfl ?_
      refine AO.yld _ (Yld.load Try.isAgg2 rfl rfl) rfl rfl rfl ?_
      refine AO.yld _ (Yld.call rfl rfl Try.call125 rfl rfl rfl (impl_SignedBetween_c (by omega) (by omega) (by omega) (by omega)) rfl) rfl rfl rfl ?_
      refine AO.yld _ (Yld.add rfl rfl (by omega) (by omega)) rfl rfl rfl ?_
      refine AO.yld _ (Yld.assign rfl) rfl rfl rfl ?_
      refine AO.nil ?_
      refine AC.region ?_
      refine AO.yld _ (Yld.move rfl) rfl rfl rfl ?_
      refine AO.yld _ (Yld.fieldAddr Try.underlying134 rfl rfl Try.sizeOf2 rfl rfl rfl) rfl rfl rfl ?_
      refine AO.yld _ (Yld.load Try.isAgg2 rfl rfl) rfl rfl rfl ?_
      refine AO.yld _ (Yld.fieldAddr Try.underlying134 rfl rfl Try.sizeOf2 rfl rfl rfl) rfl rfl rfl ?_
      refine AO.yld _ (Yld.load Try.isAgg2 rfl rfl) rfl rfl rfl ?_
      refine AO.yld _ (Yld.sub rfl rfl (by omega) (by omega)) rfl rfl rfl ?_
      refine AO.yld _ (Yld.add rfl rfl (by omega) (by omega)) rfl rfl rfl ?_
      refine AO.yld _ (Yld.assign rfl) rfl rfl rfl ?_
      refine AO.nil ?_
      refine AC.mark ?_
      refine AC.region ?_
      refine AO.yld _ (Yld.add rfl rfl (by omega) (by omega)) rfl rfl rfl ?_
      refine AO.yld _ (Yld.move rfl) rfl rfl rfl ?_
      refine AO.nil ?_
      refine AC.back ⟨k + 1, ?_, ?_, ⟨?_, ?_, ?_, trivial⟩, trivial, ⟨rfl, rfl, rfl, rfl, rfl, trivial⟩, trivial⟩
      · exact hk
      · omega
      · rfl
      · show some (AV.p (PV.v (Value.int IntKind.i64 _))) = _; rw [sumTo_succ hx]; rfl
      · show some (AV.p (PV.v (Value.int IntKind.i64 _))) = _; rw [sumTo_succ hx]; rfl
    · -- c12 False
      obtain rfl : k = xs.length := by have := ge_of_decM c12; omega
      have h1 := turn_lim xs xs.length
      have h2 := lift_lim hok xs.length
      refine AC.exit rfl ?_
      refine AC.seq ?_
      refine AC.region ?_
      refine AO.yld _ (Yld.move rfl) rfl rfl rfl ?_
      refine AO.yld _ (Yld.len Try.underlying55 rfl rfl) rfl rfl rfl ?_
      refine AO.yld _ (Yld.assign rfl) rfl rfl rfl ?_
      refine AO.nil ?_
      refine AC.seq ?_
      refine AC.region ?_
      refine AO.yld _ (Yld.move rfl) rfl rfl rfl ?_
      refine AO.yld _ (Yld.move rfl) rfl rfl rfl ?_
      refine AO.yld _ (Yld.call rfl rfl Try.call155 rfl rfl rfl (impl_DivRound_c (by simp only [List.length_map]; omega) (by simp only [List.length_map]; omega) (by omega) (by omega)) rfl) rfl rfl rfl ?_
      refine AO.yld _ (Yld.move rfl) rfl rfl rfl ?_
      refine AO.yld _ (Yld.move rfl) rfl rfl rfl ?_
      refine AO.yld _ (Yld.call rfl rfl Try.call155 rfl rfl rfl (impl_DivRound_c (by simp only [List.length_map]; omega) (by simp only [List.length_map]; omega) (by omega) (by omega)) rfl) rfl rfl rfl ?_
      refine AO.yld _ (Yld.assign rfl) rfl rfl rfl ?_
      refine AO.yld _ (Yld.assign rfl) rfl rfl rfl ?_
      refine AO.nil ?_
      refine Pure.retT Try.results123 (RVs.cons (RV.tmp rfl) (RVs.cons (RV.tmp rfl) RVs.nil)) rfl ?_
      simp only [List.length_map]

end Go.Proofs.Ytaanabofedickaa
