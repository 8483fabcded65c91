/- Texts that are cut at a byte. -/
import Derived.Test.YtghcdgjbgljipaaDoorD35
import Derived.Lib.Atoi
import Derived.Lib.AtoiTie
import Derived.Lib.ParseIntBTie
import Derived.Lib.SplitLaws
set_option linter.all false
/- Numbers that are read: what is read is what is written. -/
namespace Go.V
open Go
theorem decFrom_snoc : ∀ (l : List UInt8) (acc : Nat) (b : UInt8), Lib.decFrom acc (l ++ [b]) = (Lib.decFrom acc l).bind fun m => (Lib.digitVal b).map fun d => m * 10 + d
  | [], acc, b => by
    simp only [List.nil_append, Lib.decFrom, Option.bind_some]
    cases Lib.digitVal b <;> rfl
  | c :: l, acc, b => by
    simp only [List.cons_append, Lib.decFrom]
    cases Lib.digitVal c with
    | none => rfl
    | some d => exact decFrom_snoc l _ b
theorem digit_back {b : UInt8} {d : Nat} (h : Lib.digitVal b = some d) : d < 10 ∧ UInt8.ofNat (48 + d) = b := by
  unfold Lib.digitVal at h
  split at h
  · next hb =>
    obtain rfl := Option.some.inj h
    refine ⟨by omega, ?_⟩
    apply UInt8.toNat_inj.1
    rw [UInt8.toNat_ofNat']
    omega
  · cases h
theorem digit_of_nat {d : Nat} (h : d < 10) : Lib.digitVal (UInt8.ofNat (48 + d)) = some d := by
  unfold Lib.digitVal
  rw [UInt8.toNat_ofNat']
  rw [if_pos (by omega)]
  congr 1; omega
theorem dec_small {u : Nat} (h : u < 10) : Lib.decDigits u = [UInt8.ofNat (48 + u)] := by rw [Lib.decDigits, dif_pos h]
theorem dec_big {u : Nat} (h : ¬ u < 10) : Lib.decDigits u = Lib.decDigits (u / 10) ++ [UInt8.ofNat (48 + u % 10)] := by rw [Lib.decDigits, dif_neg h]
/-- A numeral without zeros ahead is what its number is written as. -/
theorem dec_read : ∀ (k : Nat) (l : List UInt8) {u : Nat}, l.length ≤ k → l ≠ [] → (l.head? ≠ some 48 ∨ l.length = 1) → Lib.decFrom 0 l = some u → Lib.decDigits u = l := by
  intro k
  induction k with
  | zero => intro l u h h0; exact absurd (List.eq_nil_of_length_eq_zero (by omega)) h0
  | succ k ih =>
    intro l u hk h0 hz h
    obtain ⟨l', b, rfl⟩ : ∃ l' b, l = l' ++ [b] := ⟨l.dropLast, l.getLast h0, (List.dropLast_concat_getLast h0).symm⟩
    rw [decFrom_snoc] at h
    cases hm : Lib.decFrom 0 l' with
    | none => rw [hm] at h; cases h
    | some m =>
      rw [hm] at h
      simp only [Option.bind_some] at h
      cases hd : Lib.digitVal b with
      | none => rw [hd] at h; cases h
      | some d =>
        rw [hd] at h
        simp only [Option.map_some, Option.some.injEq] at h
        obtain ⟨h1, h2⟩ := digit_back hd
        by_cases hl : l' = []
        · subst hl
          simp only [Lib.decFrom, Option.some.injEq] at hm
          rw [← hm] at h
          rw [dec_small (by omega), show u = d by omega, h2]; rfl
        · have hne : l'.head? ≠ some 48 := by
            rcases hz with hz | hz
            · cases l' with
              | nil => exact absurd rfl hl
              | cons a r => simpa using hz
            · have := List.length_pos_iff.2 hl
              simp only [List.length_append, List.length_cons, List.length_nil] at hz; omega
          have e1 := ih l' (by simp only [List.length_append, List.length_cons, List.length_nil] at hk; omega) hl (.inl hne) hm
          have hm0 : m ≠ 0 := fun e => by
            subst e
            rw [dec_small (by omega)] at e1
            rw [← e1] at hne
            exact hne rfl
          rw [dec_big (by omega), show u / 10 = m by omega, show u % 10 = d by omega, h2, e1]
theorem dec_write : ∀ (k u : Nat), u ≤ k → Lib.decFrom 0 (Lib.decDigits u) = some u := by
  intro k
  induction k with
  | zero => intro u h; rw [show u = 0 by omega, dec_small (by omega)]; simp only [Lib.decFrom]; rw [digit_of_nat (by omega)]
  | succ k ih =>
    intro u h
    by_cases hu : u < 10
    · rw [dec_small hu]; simp only [Lib.decFrom]; rw [digit_of_nat hu]; simp
    · rw [dec_big hu, decFrom_snoc, ih (u / 10) (by omega), digit_of_nat (by omega)]
      simp only [Option.bind_some, Option.map_some, Option.some.injEq]; omega
theorem dec_head : ∀ (k u : Nat), u ≤ k → (Lib.decDigits u).head? = some 48 → u = 0 := by
  intro k
  induction k with
  | zero => intro u h _; omega
  | succ k ih =>
    intro u h hh
    by_cases hu : u < 10
    · rw [dec_small hu] at hh
      simp only [List.head?_cons, Option.some.injEq] at hh
      have := congrArg UInt8.toNat hh
      rw [UInt8.toNat_ofNat'] at this
      have h48 : (48 : UInt8).toNat = 48 := rfl
      omega
    · rw [dec_big hu] at hh
      have hne : Lib.decDigits (u / 10) ≠ [] := fun e => by
        have h9 := dec_write _ (u / 10) (Nat.le_refl _)
        have hl := Lib.decDigits_length (u / 10)
        rw [e] at hl
        have := Lib.nDigits_pos (u / 10)
        simp at hl; omega
      have hh2 : (Lib.decDigits (u / 10)).head? = some 48 := by
        cases hd : Lib.decDigits (u / 10) with
        | nil => exact absurd hd hne
        | cons a r => rw [hd] at hh; simpa using hh
      have := ih (u / 10) (by omega) hh2
      omega
/-- What is behind a sign. -/
def mag (s : List UInt8) : List UInt8 := if s.head? = some 45 then s.tail else s
def withSign (s : List UInt8) (u : Nat) : Int := if s.head? = some 45 then -(u : Int) else u
def readDec (s : List UInt8) : Option Int :=
  if 1 ≤ (mag s).length ∧ (mag s).length ≤ 18 then (match Lib.decFrom 0 (mag s) with
    | some u => if Lib.itoa (withSign s u) = s then some (withSign s u) else none
    | none => none) else none
/-- As the specification asks: no zero ahead. -/
def numB (s : List UInt8) : Option Int :=
  if 1 ≤ (mag s).length ∧ (mag s).length ≤ 18 ∧ ¬ ((mag s).head? = some 48 ∧ 1 < s.length) then (Lib.decFrom 0 (mag s)).map (withSign s) else none
theorem num_read (s : List UInt8) : numB s = readDec s := by
  unfold numB readDec
  by_cases hl : 1 ≤ (mag s).length ∧ (mag s).length ≤ 18
  · rw [if_pos hl]
    cases hd : Lib.decFrom 0 (mag s) with
    | none => simp
    | some u =>
      simp only [Option.map_some]
      have hne : mag s ≠ [] := fun e => by rw [e] at hl; simp at hl
      by_cases hz : (mag s).head? = some 48 ∧ 1 < s.length
      · rw [if_neg (fun h => h.2.2 hz), if_neg]
        intro he
        by_cases hs : s.head? = some 45
        · have hm : mag s = s.tail := if_pos hs
          have hw : withSign s u = -(u : Int) := if_pos hs
          rw [hw] at he
          by_cases h0 : u = 0
          · subst h0
            rw [show -((0 : Nat) : Int) = 0 by rfl, itoa_zero] at he
            rw [← he] at hs; cases hs
          · unfold Lib.itoa at he
            rw [if_pos (by omega), show (-(u : Int)).natAbs = u by omega] at he
            rw [hm, ← he] at hz
            exact h0 (dec_head _ u (Nat.le_refl _) hz.1)
        · have hm : mag s = s := if_neg hs
          have hw : withSign s u = (u : Int) := if_neg hs
          rw [hw] at he
          unfold Lib.itoa at he
          rw [if_neg (by omega), show ((u : Int)).toNat = u by omega] at he
          rw [hm] at hz
          rw [← he] at hz
          have := dec_head _ u (Nat.le_refl _) hz.1
          subst this
          rw [dec_small (by omega)] at hz
          simp at hz
      · rw [if_pos ⟨hl.1, hl.2, hz⟩, if_pos]
        by_cases hs : s.head? = some 45
        · have hm : mag s = s.tail := if_pos hs
          have hw : withSign s u = -(u : Int) := if_pos hs
          have hsl : s = 45 :: s.tail := by cases s with
            | nil => cases hs
            | cons a r => simp only [List.head?_cons, Option.some.injEq] at hs; subst hs; rfl
          have hlen : 1 < s.length := by rw [hsl, List.length_cons]; rw [hm] at hl; omega
          have hh : (mag s).head? ≠ some 48 := fun h => hz ⟨h, hlen⟩
          have hr := dec_read _ _ (Nat.le_refl _) hne (.inl hh) hd
          have h0 : u ≠ 0 := fun e => by
            subst e
            rw [dec_small (by omega)] at hr
            rw [← hr] at hh; exact hh rfl
          rw [hw]; unfold Lib.itoa
          rw [if_pos (by omega), show (-(u : Int)).natAbs = u by omega, hr, hm]
          exact hsl.symm
        · have hm : mag s = s := if_neg hs
          have hw : withSign s u = (u : Int) := if_neg hs
          have hr := dec_read _ _ (Nat.le_refl _) hne (by
            by_cases h : (mag s).head? = some 48
            · refine .inr ?_
              have : ¬ 1 < s.length := fun h2 => hz ⟨h, h2⟩
              rw [hm] at hl ⊢; omega
            · exact .inl h) hd
          rw [hw]; unfold Lib.itoa
          rw [if_neg (by omega), show ((u : Int)).toNat = u by omega, hr, hm]
  · rw [if_neg hl, if_neg (fun h => hl ⟨h.1, h.2.1⟩)]
end Go.V
/- What the library parses, against what is read. -/
namespace Go.V
open Go
theorem parse_read {s : List UInt8} (hl : 1 ≤ (mag s).length ∧ (mag s).length ≤ 18) :
    (∃ v : Int, v.natAbs < 9223372036854775808 ∧ Lib.parseIntB 64 s = .ok v ∧ readDec s = if Lib.itoa v = s then some v else none) ∨ (Lib.parseIntB 64 s = Go.Lib.NumEnd.syntax ∧ readDec s = none) := by
  rw [Lib.parseIntB_64]
  unfold readDec
  rw [if_pos hl]
  cases s with
  | nil => simp [mag] at hl
  | cons c r =>
    by_cases hc : c = 45
    · subst hc
      have hm : mag (45 :: r) = r := if_pos rfl
      have hw : ∀ u, withSign (45 :: r) u = -(u : Int) := fun u => if_pos rfl
      rw [hm] at hl ⊢
      have hp := Lib.parseMag_short r hl.2
      have hdn : Lib.decNat r = Lib.decFrom 0 r := by
        unfold Lib.decNat
        cases r with
        | nil => simp at hl
        | cons => rfl
      have h45 : (45 : UInt8).toNat = 45 := rfl
      cases hd : Lib.decFrom 0 r with
      | none =>
        right
        rw [hdn, hd] at hp
        refine ⟨?_, rfl⟩
        simp only [Lib.atoiAll, h45, or_true, if_true, hp, Lib.NumEnd.ofOption]
      | some u =>
        left
        have hs := Lib.decNat_small hl.2 (by rw [hdn]; exact hd)
        rw [hdn, hd] at hp
        refine ⟨-(u : Int), by omega, ?_, ?_⟩
        · simp only [Lib.atoiAll, h45, or_true, if_true, hp, Lib.NumEnd.ofOption]
          simp; omega
        · simp only [hw]
    · have hm : mag (c :: r) = c :: r := if_neg (by simpa using hc)
      have hw : ∀ u, withSign (c :: r) u = (u : Int) := fun u => if_neg (by simpa using hc)
      have hc2 : c.toNat ≠ 45 := fun e => hc (UInt8.toNat_inj.1 e)
      rw [hm] at hl ⊢
      by_cases h43 : c.toNat = 43
      · have hd0 : Lib.decFrom 0 (c :: r) = none := by
          simp only [Lib.decFrom, Lib.digitVal, h43]; rfl
        rw [hd0]
        have hp := Lib.parseMag_short r (by simp only [List.length_cons] at hl; omega)
        cases hd : Lib.decNat r with
        | none =>
          right
          rw [hd] at hp
          refine ⟨?_, rfl⟩
          simp only [Lib.atoiAll, h43, true_or, if_true, hp, Lib.NumEnd.ofOption]
        | some u =>
          left
          have hs := Lib.decNat_small (by simp only [List.length_cons] at hl; omega) hd
          rw [hd] at hp
          refine ⟨(u : Int), by omega, ?_, ?_⟩
          · simp only [Lib.atoiAll, h43, true_or, if_true, hp, Lib.NumEnd.ofOption]
            simp; omega
          · rw [if_neg]
            intro he
            unfold Lib.itoa at he
            rw [if_neg (by omega), show ((u : Int)).toNat = u by omega] at he
            have h9 := dec_write _ u (Nat.le_refl _)
            rw [he, hd0] at h9; cases h9
      · have hp := Lib.parseMag_short (c :: r) hl.2
        have hdn : Lib.decNat (c :: r) = Lib.decFrom 0 (c :: r) := rfl
        cases hd : Lib.decFrom 0 (c :: r) with
        | none =>
          right
          rw [hdn, hd] at hp
          refine ⟨?_, rfl⟩
          simp only [Lib.atoiAll, h43, hc2, or_self, if_false, hp, Lib.NumEnd.ofOption]
        | some u =>
          left
          have hs := Lib.decNat_small hl.2 (by rw [hdn]; exact hd)
          rw [hdn, hd] at hp
          refine ⟨(u : Int), by omega, ?_, ?_⟩
          · simp only [Lib.atoiAll, h43, hc2, or_self, if_false, hp, Lib.NumEnd.ofOption]
            simp; omega
          · simp only [hw]
end Go.V
namespace Go.V
open Go
def sps (c : UInt8) : List UInt8 → List (List UInt8)
  | [] => [[]]
  | b :: r => if b = c then [] :: sps c r else match sps c r with
    | [] => [[b]]
    | w :: ws => (b :: w) :: ws
theorem sps_none {c : UInt8} : ∀ {l : List UInt8}, c ∉ l → sps c l = [l]
  | [], _ => rfl
  | b :: r, h => by
    have h1 : b ≠ c := fun e => h (by simp [e])
    have h2 : c ∉ r := fun e => h (by simp [e])
    simp only [sps, if_neg h1, sps_none h2]
theorem sps_hit {c : UInt8} {b : List UInt8} : ∀ {a : List UInt8}, c ∉ a → sps c (a ++ c :: b) = a :: sps c b
  | [], _ => by simp only [List.nil_append, sps, if_true]
  | x :: a, h => by
    have h1 : x ≠ c := fun e => h (by simp [e])
    have h2 : c ∉ a := fun e => h (by simp [e])
    simp only [List.cons_append, sps, if_neg h1, sps_hit h2]
theorem sps_cases (c : UInt8) : ∀ l : List UInt8, c ∉ l ∨ ∃ a b, c ∉ a ∧ l = a ++ c :: b
  | [] => .inl (by simp)
  | x :: l => by
    by_cases h : x = c
    · subst h; exact .inr ⟨[], l, by simp, rfl⟩
    · rcases sps_cases c l with h2 | ⟨a, b, h2, rfl⟩
      · exact .inl (by simp [Ne.symm h, h2])
      · exact .inr ⟨x :: a, b, by simp [Ne.symm h, h2], rfl⟩
theorem sps_length (c : UInt8) : ∀ (k : Nat) (l : List UInt8), l.length ≤ k → (sps c l).length = l.count c + 1 ∧ (sps c l).length ≤ l.length + 1
  | 0, l, h => by rw [List.eq_nil_of_length_eq_zero (by omega : l.length = 0)]; simp [sps]
  | k + 1, l, h => by
    rcases sps_cases c l with h1 | ⟨a, b, h1, rfl⟩
    · rw [sps_none h1]; simp [List.count_eq_zero.2 h1]
    · simp only [List.length_append, List.length_cons] at h
      have ih := sps_length c k b (by omega)
      rw [sps_hit h1]
      simp only [List.length_append, List.length_cons, List.count_append, List.count_cons_self, List.count_eq_zero.2 h1]
      omega
theorem sps_ne (c : UInt8) (l : List UInt8) : sps c l ≠ [] := fun e => by have := (sps_length c _ l (Nat.le_refl _)).1; rw [e] at this; simp at this
/-- All parts, with the byte between them. -/
def joinB (c : UInt8) : List (List UInt8) → List UInt8
  | [] => []
  | [w] => w
  | w :: ws => w ++ c :: joinB c ws
theorem join_sps (c : UInt8) : ∀ (k : Nat) (l : List UInt8), l.length ≤ k → joinB c (sps c l) = l
  | 0, l, h => by rw [List.eq_nil_of_length_eq_zero (by omega : l.length = 0)]; rfl
  | k + 1, l, h => by
    rcases sps_cases c l with h1 | ⟨a, b, h1, rfl⟩
    · rw [sps_none h1]; rfl
    · simp only [List.length_append, List.length_cons] at h
      have ih := join_sps c k b (by omega)
      rw [sps_hit h1]
      cases hs : sps c b with
      | nil => exact absurd hs (sps_ne c b)
      | cons w ws => rw [joinB, ← hs, ih]; simp
theorem sps_free (c : UInt8) : ∀ (k : Nat) (l : List UInt8), l.length ≤ k → ∀ w ∈ sps c l, c ∉ w ∧ w.length ≤ l.length
  | 0, l, h, w, hw => by
    rw [List.eq_nil_of_length_eq_zero (by omega : l.length = 0)] at hw ⊢
    simp only [sps, List.mem_singleton] at hw; subst hw; simp
  | k + 1, l, h, w, hw => by
    rcases sps_cases c l with h1 | ⟨a, b, h1, rfl⟩
    · rw [sps_none h1, List.mem_singleton] at hw; subst hw; exact ⟨h1, Nat.le_refl _⟩
    · simp only [List.length_append, List.length_cons] at h ⊢
      rw [sps_hit h1] at hw
      rcases List.mem_cons.1 hw with rfl | hw
      · exact ⟨h1, by omega⟩
      · have := sps_free c k b (by omega) w hw; exact ⟨this.1, by omega⟩
/-- The library's index, cut, split at one byte. -/
theorem index_none {c : UInt8} : ∀ {l : List UInt8}, c ∉ l → Lib.index l [c] = -1
  | [], _ => by simp [Lib.index]
  | b :: r, h => by
    have h1 : b ≠ c := fun e => h (by simp [e])
    have h2 : c ∉ r := fun e => h (by simp [e])
    rw [Lib.index, index_none h2]; simp [List.isPrefixOf, Ne.symm h1]
theorem index_hit {c : UInt8} {b : List UInt8} : ∀ {a : List UInt8}, c ∉ a → Lib.index (a ++ c :: b) [c] = a.length
  | [], _ => by simp [Lib.index, List.isPrefixOf]
  | x :: a, h => by
    have h1 : x ≠ c := fun e => h (by simp [e])
    have h2 : c ∉ a := fun e => h (by simp [e])
    rw [List.cons_append, Lib.index, index_hit h2]
    simp only [List.isPrefixOf, Bool.and_true, beq_iff_eq, Ne.symm h1, if_false, List.length_cons]
    rw [if_neg (by omega)]; omega
theorem cut_none {c : UInt8} {l : List UInt8} (h : c ∉ l) : Lib.cut l [c] = (l, [], false) := by
  unfold Lib.cut; rw [index_none h]; simp
theorem cut_hit {c : UInt8} {a b : List UInt8} (h : c ∉ a) : Lib.cut (a ++ c :: b) [c] = (a, b, true) := by
  unfold Lib.cut; rw [index_hit h, if_pos (by omega)]
  simp
theorem splitK_sps {c : UInt8} : ∀ (k : Nat) (l : List UInt8), l.count c = k → Lib.splitK [c] 0 k l = sps c l
  | 0, l, h => by rw [sps_none (List.count_eq_zero.1 h)]; rfl
  | k + 1, l, h => by
    rcases sps_cases c l with h1 | ⟨a, b, h1, rfl⟩
    · rw [List.count_eq_zero.2 h1] at h; cases h
    · rw [sps_hit h1, Lib.splitK, index_hit h1, if_neg (by simp)]
      simp only [List.count_append, List.count_cons_self, List.count_eq_zero.2 h1] at h
      have ih := splitK_sps (c := c) k b (by omega)
      simp only [Int.toNat_natCast, Nat.add_zero, List.length_cons, List.length_nil]
      rw [List.take_left, show a.length + (0 + 1) = a.length + 1 by omega, List.drop_append, List.drop_of_length_le (by omega), show a.length + 1 - a.length = 1 by omega]
      simp only [List.nil_append, List.drop_succ_cons, List.drop_zero]
      rw [ih]
theorem split_sps (c : UInt8) (l : List UInt8) : Lib.split l [c] = sps c l := by
  unfold Lib.split; rw [Lib.count_one]; exact splitK_sps _ l rfl
theorem splitB_sps (c : UInt8) (l : List UInt8) : (Lib.splitB ⟨#[c]⟩ 0 (Lib.countB ⟨l.toArray⟩ ⟨#[c]⟩) ⟨l.toArray⟩).map Value.string = (sps c l).map str ∧ Lib.countB ⟨l.toArray⟩ ⟨#[c]⟩ + 1 = (sps c l).length := by
  have hc : Lib.countB ⟨l.toArray⟩ ⟨#[c]⟩ = l.count c := by
    have := Lib.count_one c l
    simpa [Lib.countB] using this
  refine ⟨?_, by rw [hc, (sps_length c _ l (Nat.le_refl _)).1]⟩
  have h := Lib.splitB_data ⟨#[c]⟩ 0 (Lib.countB ⟨l.toArray⟩ ⟨#[c]⟩) ⟨l.toArray⟩
  have h2 : (Lib.splitB ⟨#[c]⟩ 0 (Lib.countB ⟨l.toArray⟩ ⟨#[c]⟩) ⟨l.toArray⟩).map (·.data.toList) = sps c l := by
    rw [h, hc]
    exact splitK_sps _ l rfl
  rw [← h2, List.map_map]
  apply List.map_congr_left
  intro x _
  simp [str]
/-- A space within makes no numeral. -/
theorem decFrom_space {c : UInt8} (hc : Lib.digitVal c = none) : ∀ {l : List UInt8} {acc : Nat}, c ∈ l → Lib.decFrom acc l = none
  | [], _, h => by cases h
  | b :: r, acc, h => by
    rw [Lib.decFrom]
    cases hb : Lib.digitVal b with
    | none => rfl
    | some d =>
      rcases List.mem_cons.1 h with rfl | h
      · rw [hc] at hb; cases hb
      · exact decFrom_space hc h
theorem readDec_space {c : UInt8} (hc : Lib.digitVal c = none) (h45 : c ≠ 45) {s : List UInt8} (h : c ∈ s) : readDec s = none := by
  unfold readDec
  have hm : c ∈ mag s := by
    unfold mag
    split
    · cases s with
      | nil => cases h
      | cons a r =>
        rename_i h9
        simp only [List.head?_cons, Option.some.injEq] at h9; subst h9
        rcases List.mem_cons.1 h with e | e
        · exact absurd e h45
        · exact e
    · exact h
  rw [decFrom_space hc hm]
  simp
theorem digit32 : Lib.digitVal 32 = none := rfl
theorem readDec_nil : readDec [] = none := by simp [readDec, mag]
end Go.V
