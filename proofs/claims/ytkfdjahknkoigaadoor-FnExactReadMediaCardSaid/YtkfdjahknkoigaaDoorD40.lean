/- Numbers that are read: what is read is what is written. -/
import Derived.Test.YtkfdjahknkoigaaDoorD35
import Derived.Lib.Atoi
set_option linter.all false
namespace Go.V
open Go
theorem decFrom_snoc : ∀ (l : List UInt8) (acc : Nat) (b : UInt8), Lib.decFrom acc (l ++ [b]) = (Lib.decFrom acc l).bind fun m => (Lib.digitVal b).map fun d => m * 10 + d
  | [], acc, b => by
    simp only [List.nil_append, Lib.decFrom, Option.bind_some]
    cases Lib.digitVal b <;> rfl
  | c :: l, acc, b => by
    simp only [List.cons_append, Lib.decFrom]
    cases Lib.digitVal c with
    | none => rfl
    | some d => exact decFrom_snoc l _ b
theorem digit_back {b : UInt8} {d : Nat} (h : Lib.digitVal b = some d) : d < 10 ∧ UInt8.ofNat (48 + d) = b := by
  unfold Lib.digitVal at h
  split at h
  · next hb =>
    obtain rfl := Option.some.inj h
    refine ⟨by omega, ?_⟩
    apply UInt8.toNat_inj.1
    rw [UInt8.toNat_ofNat']
    omega
  · cases h
theorem digit_of_nat {d : Nat} (h : d < 10) : Lib.digitVal (UInt8.ofNat (48 + d)) = some d := by
  unfold Lib.digitVal
  rw [UInt8.toNat_ofNat']
  rw [if_pos (by omega)]
  congr 1; omega
theorem dec_small {u : Nat} (h : u < 10) : Lib.decDigits u = [UInt8.ofNat (48 + u)] := by rw [Lib.decDigits, dif_pos h]
theorem dec_big {u : Nat} (h : ¬ u < 10) : Lib.decDigits u = Lib.decDigits (u / 10) ++ [UInt8.ofNat (48 + u % 10)] := by rw [Lib.decDigits, dif_neg h]
/-- A numeral without zeros ahead is what its number is written as. -/
theorem dec_read : ∀ (k : Nat) (l : List UInt8) {u : Nat}, l.length ≤ k → l ≠ [] → (l.head? ≠ some 48 ∨ l.length = 1) → Lib.decFrom 0 l = some u → Lib.decDigits u = l := by
  intro k
  induction k with
  | zero => intro l u h h0; exact absurd (List.eq_nil_of_length_eq_zero (by omega)) h0
  | succ k ih =>
    intro l u hk h0 hz h
    obtain ⟨l', b, rfl⟩ : ∃ l' b, l = l' ++ [b] := ⟨l.dropLast, l.getLast h0, (List.dropLast_concat_getLast h0).symm⟩
    rw [decFrom_snoc] at h
    cases hm : Lib.decFrom 0 l' with
    | none => rw [hm] at h; cases h
    | some m =>
      rw [hm] at h
      simp only [Option.bind_some] at h
      cases hd : Lib.digitVal b with
      | none => rw [hd] at h; cases h
      | some d =>
        rw [hd] at h
        simp only [Option.map_some, Option.some.injEq] at h
        obtain ⟨h1, h2⟩ := digit_back hd
        by_cases hl : l' = []
        · subst hl
          simp only [Lib.decFrom, Option.some.injEq] at hm
          rw [← hm] at h
          rw [dec_small (by omega), show u = d by omega, h2]; rfl
        · have hne : l'.head? ≠ some 48 := by
            rcases hz with hz | hz
            · cases l' with
              | nil => exact absurd rfl hl
              | cons a r => simpa using hz
            · have := List.length_pos_iff.2 hl
              simp only [List.length_append, List.length_cons, List.length_nil] at hz; omega
          have e1 := ih l' (by simp only [List.length_append, List.length_cons, List.length_nil] at hk; omega) hl (.inl hne) hm
          have hm0 : m ≠ 0 := fun e => by
            subst e
            rw [dec_small (by omega)] at e1
            rw [← e1] at hne
            exact hne rfl
          rw [dec_big (by omega), show u / 10 = m by omega, show u % 10 = d by omega, h2, e1]
theorem dec_write : ∀ (k u : Nat), u ≤ k → Lib.decFrom 0 (Lib.decDigits u) = some u := by
  intro k
  induction k with
  | zero => intro u h; rw [show u = 0 by omega, dec_small (by omega)]; simp only [Lib.decFrom]; rw [digit_of_nat (by omega)]
  | succ k ih =>
    intro u h
    by_cases hu : u < 10
    · rw [dec_small hu]; simp only [Lib.decFrom]; rw [digit_of_nat hu]; simp
    · rw [dec_big hu, decFrom_snoc, ih (u / 10) (by omega), digit_of_nat (by omega)]
      simp only [Option.bind_some, Option.map_some, Option.some.injEq]; omega
theorem dec_head : ∀ (k u : Nat), u ≤ k → (Lib.decDigits u).head? = some 48 → u = 0 := by
  intro k
  induction k with
  | zero => intro u h _; omega
  | succ k ih =>
    intro u h hh
    by_cases hu : u < 10
    · rw [dec_small hu] at hh
      simp only [List.head?_cons, Option.some.injEq] at hh
      have := congrArg UInt8.toNat hh
      rw [UInt8.toNat_ofNat'] at this
      have h48 : (48 : UInt8).toNat = 48 := rfl
      omega
    · rw [dec_big hu] at hh
      have hne : Lib.decDigits (u / 10) ≠ [] := fun e => by
        have h9 := dec_write _ (u / 10) (Nat.le_refl _)
        have hl := Lib.decDigits_length (u / 10)
        rw [e] at hl
        have := Lib.nDigits_pos (u / 10)
        simp at hl; omega
      have hh2 : (Lib.decDigits (u / 10)).head? = some 48 := by
        cases hd : Lib.decDigits (u / 10) with
        | nil => exact absurd hd hne
        | cons a r => rw [hd] at hh; simpa using hh
      have := ih (u / 10) (by omega) hh2
      omega
/-- What is behind a sign. -/
def mag (s : List UInt8) : List UInt8 := if s.head? = some 45 then s.tail else s
def withSign (s : List UInt8) (u : Nat) : Int := if s.head? = some 45 then -(u : Int) else u
def readDec (s : List UInt8) : Option Int :=
  if 1 ≤ (mag s).length ∧ (mag s).length ≤ 18 then (match Lib.decFrom 0 (mag s) with
    | some u => if Lib.itoa (withSign s u) = s then some (withSign s u) else none
    | none => none) else none
/-- As the specification asks: no zero ahead. -/
def numB (s : List UInt8) : Option Int :=
  if 1 ≤ (mag s).length ∧ (mag s).length ≤ 18 ∧ ¬ ((mag s).head? = some 48 ∧ 1 < s.length) then (Lib.decFrom 0 (mag s)).map (withSign s) else none
theorem num_read (s : List UInt8) : numB s = readDec s := by
  unfold numB readDec
  by_cases hl : 1 ≤ (mag s).length ∧ (mag s).length ≤ 18
  · rw [if_pos hl]
    cases hd : Lib.decFrom 0 (mag s) with
    | none => simp
    | some u =>
      simp only [Option.map_some]
      have hne : mag s ≠ [] := fun e => by rw [e] at hl; simp at hl
      by_cases hz : (mag s).head? = some 48 ∧ 1 < s.length
      · rw [if_neg (fun h => h.2.2 hz), if_neg]
        intro he
        by_cases hs : s.head? = some 45
        · have hm : mag s = s.tail := if_pos hs
          have hw : withSign s u = -(u : Int) := if_pos hs
          rw [hw] at he
          by_cases h0 : u = 0
          · subst h0
            rw [show -((0 : Nat) : Int) = 0 by rfl, itoa_zero] at he
            rw [← he] at hs; cases hs
          · unfold Lib.itoa at he
            rw [if_pos (by omega), show (-(u : Int)).natAbs = u by omega] at he
            rw [hm, ← he] at hz
            exact h0 (dec_head _ u (Nat.le_refl _) hz.1)
        · have hm : mag s = s := if_neg hs
          have hw : withSign s u = (u : Int) := if_neg hs
          rw [hw] at he
          unfold Lib.itoa at he
          rw [if_neg (by omega), show ((u : Int)).toNat = u by omega] at he
          rw [hm] at hz
          rw [← he] at hz
          have := dec_head _ u (Nat.le_refl _) hz.1
          subst this
          rw [dec_small (by omega)] at hz
          simp at hz
      · rw [if_pos ⟨hl.1, hl.2, hz⟩, if_pos]
        by_cases hs : s.head? = some 45
        · have hm : mag s = s.tail := if_pos hs
          have hw : withSign s u = -(u : Int) := if_pos hs
          have hsl : s = 45 :: s.tail := by cases s with
            | nil => cases hs
            | cons a r => simp only [List.head?_cons, Option.some.injEq] at hs; subst hs; rfl
          have hlen : 1 < s.length := by rw [hsl, List.length_cons]; rw [hm] at hl; omega
          have hh : (mag s).head? ≠ some 48 := fun h => hz ⟨h, hlen⟩
          have hr := dec_read _ _ (Nat.le_refl _) hne (.inl hh) hd
          have h0 : u ≠ 0 := fun e => by
            subst e
            rw [dec_small (by omega)] at hr
            rw [← hr] at hh; exact hh rfl
          rw [hw]; unfold Lib.itoa
          rw [if_pos (by omega), show (-(u : Int)).natAbs = u by omega, hr, hm]
          exact hsl.symm
        · have hm : mag s = s := if_neg hs
          have hw : withSign s u = (u : Int) := if_neg hs
          have hr := dec_read _ _ (Nat.le_refl _) hne (by
            by_cases h : (mag s).head? = some 48
            · refine .inr ?_
              have : ¬ 1 < s.length := fun h2 => hz ⟨h, h2⟩
              rw [hm] at hl ⊢; omega
            · exact .inl h) hd
          rw [hw]; unfold Lib.itoa
          rw [if_neg (by omega), show ((u : Int)).toNat = u by omega, hr, hm]
  · rw [if_neg hl, if_neg (fun h => hl ⟨h.1, h.2.1⟩)]
end Go.V
