/- What the library parses, against what is read. -/
import Derived.Test.YtkfdjahknkoigaaDoorD40
import Derived.Lib.AtoiTie
import Derived.Lib.ParseIntBTie
set_option linter.all false
namespace Go.V
open Go
theorem parse_read {s : List UInt8} (hl : 1 ≤ (mag s).length ∧ (mag s).length ≤ 18) :
    (∃ v : Int, v.natAbs < 9223372036854775808 ∧ Lib.parseIntB 64 s = .ok v ∧ readDec s = if Lib.itoa v = s then some v else none) ∨ (Lib.parseIntB 64 s = Go.Lib.NumEnd.syntax ∧ readDec s = none) := by
  rw [Lib.parseIntB_64]
  unfold readDec
  rw [if_pos hl]
  cases s with
  | nil => simp [mag] at hl
  | cons c r =>
    by_cases hc : c = 45
    · subst hc
      have hm : mag (45 :: r) = r := if_pos rfl
      have hw : ∀ u, withSign (45 :: r) u = -(u : Int) := fun u => if_pos rfl
      rw [hm] at hl ⊢
      have hp := Lib.parseMag_short r hl.2
      have hdn : Lib.decNat r = Lib.decFrom 0 r := by
        unfold Lib.decNat
        cases r with
        | nil => simp at hl
        | cons => rfl
      have h45 : (45 : UInt8).toNat = 45 := rfl
      cases hd : Lib.decFrom 0 r with
      | none =>
        right
        rw [hdn, hd] at hp
        refine ⟨?_, rfl⟩
        simp only [Lib.atoiAll, h45, or_true, if_true, hp, Lib.NumEnd.ofOption]
      | some u =>
        left
        have hs := Lib.decNat_small hl.2 (by rw [hdn]; exact hd)
        rw [hdn, hd] at hp
        refine ⟨-(u : Int), by omega, ?_, ?_⟩
        · simp only [Lib.atoiAll, h45, or_true, if_true, hp, Lib.NumEnd.ofOption]
          simp; omega
        · simp only [hw]
    · have hm : mag (c :: r) = c :: r := if_neg (by simpa using hc)
      have hw : ∀ u, withSign (c :: r) u = (u : Int) := fun u => if_neg (by simpa using hc)
      have hc2 : c.toNat ≠ 45 := fun e => hc (UInt8.toNat_inj.1 e)
      rw [hm] at hl ⊢
      by_cases h43 : c.toNat = 43
      · have hd0 : Lib.decFrom 0 (c :: r) = none := by
          simp only [Lib.decFrom, Lib.digitVal, h43]; rfl
        rw [hd0]
        have hp := Lib.parseMag_short r (by simp only [List.length_cons] at hl; omega)
        cases hd : Lib.decNat r with
        | none =>
          right
          rw [hd] at hp
          refine ⟨?_, rfl⟩
          simp only [Lib.atoiAll, h43, true_or, if_true, hp, Lib.NumEnd.ofOption]
        | some u =>
          left
          have hs := Lib.decNat_small (by simp only [List.length_cons] at hl; omega) hd
          rw [hd] at hp
          refine ⟨(u : Int), by omega, ?_, ?_⟩
          · simp only [Lib.atoiAll, h43, true_or, if_true, hp, Lib.NumEnd.ofOption]
            simp; omega
          · rw [if_neg]
            intro he
            unfold Lib.itoa at he
            rw [if_neg (by omega), show ((u : Int)).toNat = u by omega] at he
            have h9 := dec_write _ u (Nat.le_refl _)
            rw [he, hd0] at h9; cases h9
      · have hp := Lib.parseMag_short (c :: r) hl.2
        have hdn : Lib.decNat (c :: r) = Lib.decFrom 0 (c :: r) := rfl
        cases hd : Lib.decFrom 0 (c :: r) with
        | none =>
          right
          rw [hdn, hd] at hp
          refine ⟨?_, rfl⟩
          simp only [Lib.atoiAll, h43, hc2, or_self, if_false, hp, Lib.NumEnd.ofOption]
        | some u =>
          left
          have hs := Lib.decNat_small hl.2 (by rw [hdn]; exact hd)
          rw [hdn, hd] at hp
          refine ⟨(u : Int), by omega, ?_, ?_⟩
          · simp only [Lib.atoiAll, h43, hc2, or_self, if_false, hp, Lib.NumEnd.ofOption]
            simp; omega
          · simp only [hw]
end Go.V
