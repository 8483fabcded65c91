/- Reading of numbers, files, groups, machines. -/
import Derived.Test.YtkfdjahknkoigaaDoorD42
import Derived.Test.YtkfdjahknkoigaaDoorD37
set_option linter.all false
namespace Go.V
open Go
def atOf (s : List UInt8) : Nat := if s.head? = some 45 then 1 else 0
theorem head_get {s : List UInt8} : s.head? = s[0]? := by cases s <;> rfl
theorem at_one {s : List UInt8} (h : s[0]? = some 45) : atOf s = 1 := by unfold atOf; rw [head_get, if_pos h]
theorem at_zero {s : List UInt8} (h : s[0]? ≠ some 45) : atOf s = 0 := by unfold atOf; rw [head_get, if_neg h]
theorem mag_drop (s : List UInt8) : mag s = s.drop (atOf s) := by unfold mag atOf; split <;> simp
theorem mag_len (s : List UInt8) : (mag s).length = s.length - atOf s := by rw [mag_drop, List.length_drop]
theorem mag_get (s : List UInt8) (k : Nat) : (mag s)[k]? = s[atOf s + k]? := by rw [mag_drop, List.getElem?_drop]
theorem sign_one {s : List UInt8} (h : atOf s = 1) (u : Nat) : withSign s u = -(u : Int) := by
  unfold atOf at h; unfold withSign
  split at h
  · next h1 => rw [if_pos h1]
  · cases h
theorem sign_zero {s : List UInt8} (h : atOf s = 0) (u : Nat) : withSign s u = u := by
  unfold atOf at h; unfold withSign
  split at h
  · cases h
  · next h1 => rw [if_neg h1]
theorem num_yes {s : List UInt8} {u : Nat} (h : 1 ≤ (mag s).length ∧ (mag s).length ≤ 18 ∧ ¬ ((mag s)[0]? = some 48 ∧ 1 < s.length)) (hd : Lib.decFrom 0 (mag s) = some u) : readDec s = some (withSign s u) := by
  rw [← num_read]; unfold numB; rw [head_get, if_pos h, hd]; rfl
theorem num_no {s : List UInt8} (h : ¬ (1 ≤ (mag s).length ∧ (mag s).length ≤ 18 ∧ ¬ ((mag s)[0]? = some 48 ∧ 1 < s.length))) : readDec s = none := by
  rw [← num_read]; unfold numB; rw [head_get, if_neg h]
theorem num_bad {s : List UInt8} {k : Nat} {c : UInt8} (hc : (mag s)[k]? = some c) (hd : Lib.digitVal c = none) : readDec s = none := by
  unfold readDec
  rw [decFrom_space hd (List.mem_of_getElem? hc)]; simp
theorem digit_some {c : UInt8} (h : 48 ≤ (c.toNat : Int) ∧ (c.toNat : Int) ≤ 57) : Lib.digitVal c = some (c.toNat - 48) := by
  unfold Lib.digitVal; rw [if_pos (by omega)]
theorem digit_none {c : UInt8} (h : ¬ (48 ≤ (c.toNat : Int) ∧ (c.toNat : Int) ≤ 57)) : Lib.digitVal c = none := by
  unfold Lib.digitVal; rw [if_neg (by omega)]
theorem digit_wrap {c : UInt8} (h : 48 ≤ (c.toNat : Int) ∧ (c.toNat : Int) ≤ 57) : IntKind.i64.wrap (IntKind.u8.wrap ((c.toNat : Int) - 48)) = ((c.toNat - 48 : Nat) : Int) := by
  rw [IntKind.wrap_u8, IntKind.wrap_i64]; omega
theorem dec_step {l : List UInt8} {k u : Nat} {c : UInt8} {d : Nat} (h : Lib.decFrom 0 (l.take k) = some u) (hc : l[k]? = some c) (hd : Lib.digitVal c = some d) : Lib.decFrom 0 (l.take (k + 1)) = some (u * 10 + d) := by
  rw [take_snoc hc, decFrom_snoc, h, hd]; rfl
theorem dec_lt : ∀ (k : Nat) (l : List UInt8) {u : Nat}, l.length ≤ k → Lib.decFrom 0 l = some u → u < 10 ^ k
  | 0, l, u, hl, h => by
    rw [List.eq_nil_of_length_eq_zero (by omega : l.length = 0)] at h
    simp only [Lib.decFrom, Option.some.injEq] at h; omega
  | k + 1, l, u, hl, h => by
    by_cases h0 : l = []
    · subst h0
      simp only [Lib.decFrom, Option.some.injEq] at h
      rw [← h]; exact Nat.pow_pos (by omega)
    · obtain ⟨l', b, rfl⟩ : ∃ l' b, l = l' ++ [b] := ⟨l.dropLast, l.getLast h0, (List.dropLast_concat_getLast h0).symm⟩
      rw [decFrom_snoc] at h
      cases hm : Lib.decFrom 0 l' with
      | none => rw [hm] at h; cases h
      | some m =>
        rw [hm] at h
        cases hd : Lib.digitVal b with
        | none => rw [hd] at h; cases h
        | some d =>
          rw [hd] at h
          simp only [Option.bind_some, Option.map_some, Option.some.injEq] at h
          have := dec_lt k l' (by simp only [List.length_append, List.length_cons, List.length_nil] at hl; omega) hm
          have hd10 := (digit_back hd).1
          rw [Nat.pow_succ]; omega
theorem dec_lim {l : List UInt8} {k u : Nat} (hk : k < 18) (h : Lib.decFrom 0 (l.take k) = some u) : u < 100000000000000000 := by
  have := dec_lt 17 (l.take k) (by rw [List.length_take]; omega) h
  simpa using this
theorem dec_lim2 {l : List UInt8} {u : Nat} (hk : l.length ≤ 18) (h : Lib.decFrom 0 l = some u) : u < 1000000000000000000 := by
  have := dec_lt 18 l hk h
  simpa using this
theorem read_lim {s : List UInt8} {n : Int} (h : readDec s = some n) : n.natAbs < 1000000000000000000 ∧ Lib.itoa n = s := by
  unfold readDec at h
  split at h
  · next hl =>
    cases hd : Lib.decFrom 0 (mag s) with
    | none => rw [hd] at h; cases h
    | some u =>
      rw [hd] at h
      simp only at h
      split at h
      · next he =>
        obtain rfl := Option.some.inj h
        refine ⟨?_, he⟩
        have := dec_lim2 hl.2 hd
        unfold withSign; split <;> omega
      · cases h
  · cases h
/-- How far a text has been cut: where the part at hand begins; the parts before it. -/
def frTo (s : List UInt8) : Nat → Nat
  | 0 => 0
  | k + 1 => if s[k]? = some 32 then k + 1 else frTo s k
def accTo (s : List UInt8) : Nat → List (List UInt8)
  | 0 => []
  | k + 1 => if s[k]? = some 32 then accTo s k ++ [(s.take k).drop (frTo s k)] else accTo s k
theorem frTo_T {s : List UInt8} {k : Nat} (h : s[k]? = some 32) : frTo s (k + 1) = k + 1 := if_pos h
theorem frTo_F {s : List UInt8} {k : Nat} {c : UInt8} (h : s[k]? = some c) (hc : c ≠ 32) : frTo s (k + 1) = frTo s k := if_neg (by rw [h]; simpa using hc)
theorem accTo_T {s : List UInt8} {k : Nat} (h : s[k]? = some 32) : accTo s (k + 1) = accTo s k ++ [(s.take k).drop (frTo s k)] := if_pos h
theorem accTo_F {s : List UInt8} {k : Nat} {c : UInt8} (h : s[k]? = some c) (hc : c ≠ 32) : accTo s (k + 1) = accTo s k := if_neg (by rw [h]; simpa using hc)
theorem cut_inv (s : List UInt8) : ∀ k, k ≤ s.length → accTo s k ++ sps 32 (s.drop (frTo s k)) = sps 32 s ∧ frTo s k ≤ k ∧ 32 ∉ (s.take k).drop (frTo s k) ∧ (accTo s k).length ≤ k
  | 0, _ => by simp [frTo, accTo]
  | k + 1, h => by
    obtain ⟨h1, h2, h3, h4⟩ := cut_inv s k (by omega)
    obtain ⟨c, hc⟩ := get_some (xs := s) (k := k) (by omega)
    by_cases h32 : c = 32
    · subst h32
      rw [frTo_T hc, accTo_T hc]
      refine ⟨?_, Nat.le_refl _, by rw [List.drop_of_length_le (by rw [List.length_take]; omega)]; simp, by simp only [List.length_append, List.length_cons, List.length_nil]; omega⟩
      rw [← h1, List.append_assoc]
      congr 1
      have e : s.drop (frTo s k) = (s.take k).drop (frTo s k) ++ 32 :: s.drop (k + 1) := by
        have e1 : s = s.take k ++ 32 :: s.drop (k + 1) := by
          have := List.take_append_drop k s
          rw [List.drop_eq_getElem_cons (by omega)] at this
          rw [List.getElem?_eq_getElem (by omega)] at hc
          rw [Option.some.inj hc] at this
          exact this.symm
        obtain ⟨m, hm⟩ : ∃ m, m = frTo s k := ⟨_, rfl⟩
        rw [← hm] at h2 ⊢
        conv => lhs; rw [e1]
        rw [List.drop_append_of_le_length (by rw [List.length_take]; omega)]
      rw [e, sps_hit h3]; rfl
    · rw [frTo_F hc h32, accTo_F hc h32]
      refine ⟨h1, by omega, ?_, by omega⟩
      rw [take_snoc hc, List.drop_append_of_le_length (by rw [List.length_take]; omega)]
      simp only [List.mem_append, List.mem_singleton, not_or]
      exact ⟨h3, Ne.symm h32⟩
theorem cut_end (s : List UInt8) : accTo s s.length ++ [s.drop (frTo s s.length)] = sps 32 s := by
  obtain ⟨h1, h2, h3, _⟩ := cut_inv s s.length (Nat.le_refl _)
  rw [List.take_of_length_le (Nat.le_refl _)] at h3
  rw [sps_none h3] at h1
  exact h1
/-- A file with a text. -/
def rdMedia (s : List UInt8) : Option NV := match sps 32 s with
  | [a, b] => (readDec b).bind fun n => if okMedia ⟨a, n⟩ then some ⟨a, n⟩ else none
  | _ => none
theorem rdMedia_len {s : List UInt8} (h : (sps 32 s).length ≠ 2) : rdMedia s = none := by
  unfold rdMedia
  split
  · next e => rw [e] at h; exact absurd rfl h
  · rfl
theorem rdMedia_two {s a b : List UInt8} (h : sps 32 s = [a, b]) : rdMedia s = (readDec b).bind fun n => if okMedia ⟨a, n⟩ then some ⟨a, n⟩ else none := by
  unfold rdMedia; rw [h]
theorem rdMedia_cut (s : List UInt8) : rdMedia s = (readDec (Lib.cut s [32]).2.1).bind fun n => if okMedia ⟨(Lib.cut s [32]).1, n⟩ then some ⟨(Lib.cut s [32]).1, n⟩ else none := by
  rcases sps_cases 32 s with h | ⟨a, b, h, rfl⟩
  · rw [cut_none h, rdMedia_len (by rw [sps_none h]; simp), readDec_nil]; rfl
  · rw [cut_hit h]
    rcases sps_cases 32 b with h2 | ⟨c, d, h2, rfl⟩
    · exact rdMedia_two (by rw [sps_hit h, sps_none h2])
    · rw [readDec_space digit32 (by decide) (by simp), rdMedia_len]
      · rfl
      · rw [sps_hit h, sps_hit h2]
        have := List.length_pos_iff.2 (sps_ne 32 d)
        simp only [List.length_cons]; omega
end Go.V
