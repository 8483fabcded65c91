/- Texts that are cut at a byte. -/
import Derived.Test.YtkfdjahknkoigaaDoorD41
import Derived.Lib.SplitLaws
set_option linter.all false
namespace Go.V
open Go
def sps (c : UInt8) : List UInt8 → List (List UInt8)
  | [] => [[]]
  | b :: r => if b = c then [] :: sps c r else match sps c r with
    | [] => [[b]]
    | w :: ws => (b :: w) :: ws
theorem sps_none {c : UInt8} : ∀ {l : List UInt8}, c ∉ l → sps c l = [l]
  | [], _ => rfl
  | b :: r, h => by
    have h1 : b ≠ c := fun e => h (by simp [e])
    have h2 : c ∉ r := fun e => h (by simp [e])
    simp only [sps, if_neg h1, sps_none h2]
theorem sps_hit {c : UInt8} {b : List UInt8} : ∀ {a : List UInt8}, c ∉ a → sps c (a ++ c :: b) = a :: sps c b
  | [], _ => by simp only [List.nil_append, sps, if_true]
  | x :: a, h => by
    have h1 : x ≠ c := fun e => h (by simp [e])
    have h2 : c ∉ a := fun e => h (by simp [e])
    simp only [List.cons_append, sps, if_neg h1, sps_hit h2]
theorem sps_cases (c : UInt8) : ∀ l : List UInt8, c ∉ l ∨ ∃ a b, c ∉ a ∧ l = a ++ c :: b
  | [] => .inl (by simp)
  | x :: l => by
    by_cases h : x = c
    · subst h; exact .inr ⟨[], l, by simp, rfl⟩
    · rcases sps_cases c l with h2 | ⟨a, b, h2, rfl⟩
      · exact .inl (by simp [Ne.symm h, h2])
      · exact .inr ⟨x :: a, b, by simp [Ne.symm h, h2], rfl⟩
theorem sps_length (c : UInt8) : ∀ (k : Nat) (l : List UInt8), l.length ≤ k → (sps c l).length = l.count c + 1 ∧ (sps c l).length ≤ l.length + 1
  | 0, l, h => by rw [List.eq_nil_of_length_eq_zero (by omega : l.length = 0)]; simp [sps]
  | k + 1, l, h => by
    rcases sps_cases c l with h1 | ⟨a, b, h1, rfl⟩
    · rw [sps_none h1]; simp [List.count_eq_zero.2 h1]
    · simp only [List.length_append, List.length_cons] at h
      have ih := sps_length c k b (by omega)
      rw [sps_hit h1]
      simp only [List.length_append, List.length_cons, List.count_append, List.count_cons_self, List.count_eq_zero.2 h1]
      omega
theorem sps_ne (c : UInt8) (l : List UInt8) : sps c l ≠ [] := fun e => by have := (sps_length c _ l (Nat.le_refl _)).1; rw [e] at this; simp at this
/-- All parts, with the byte between them. -/
def joinB (c : UInt8) : List (List UInt8) → List UInt8
  | [] => []
  | [w] => w
  | w :: ws => w ++ c :: joinB c ws
theorem join_sps (c : UInt8) : ∀ (k : Nat) (l : List UInt8), l.length ≤ k → joinB c (sps c l) = l
  | 0, l, h => by rw [List.eq_nil_of_length_eq_zero (by omega : l.length = 0)]; rfl
  | k + 1, l, h => by
    rcases sps_cases c l with h1 | ⟨a, b, h1, rfl⟩
    · rw [sps_none h1]; rfl
    · simp only [List.length_append, List.length_cons] at h
      have ih := join_sps c k b (by omega)
      rw [sps_hit h1]
      cases hs : sps c b with
      | nil => exact absurd hs (sps_ne c b)
      | cons w ws => rw [joinB, ← hs, ih]; simp
theorem sps_free (c : UInt8) : ∀ (k : Nat) (l : List UInt8), l.length ≤ k → ∀ w ∈ sps c l, c ∉ w ∧ w.length ≤ l.length
  | 0, l, h, w, hw => by
    rw [List.eq_nil_of_length_eq_zero (by omega : l.length = 0)] at hw ⊢
    simp only [sps, List.mem_singleton] at hw; subst hw; simp
  | k + 1, l, h, w, hw => by
    rcases sps_cases c l with h1 | ⟨a, b, h1, rfl⟩
    · rw [sps_none h1, List.mem_singleton] at hw; subst hw; exact ⟨h1, Nat.le_refl _⟩
    · simp only [List.length_append, List.length_cons] at h ⊢
      rw [sps_hit h1] at hw
      rcases List.mem_cons.1 hw with rfl | hw
      · exact ⟨h1, by omega⟩
      · have := sps_free c k b (by omega) w hw; exact ⟨this.1, by omega⟩
/-- The library's index, cut, split at one byte. -/
theorem index_none {c : UInt8} : ∀ {l : List UInt8}, c ∉ l → Lib.index l [c] = -1
  | [], _ => by simp [Lib.index]
  | b :: r, h => by
    have h1 : b ≠ c := fun e => h (by simp [e])
    have h2 : c ∉ r := fun e => h (by simp [e])
    rw [Lib.index, index_none h2]; simp [List.isPrefixOf, Ne.symm h1]
theorem index_hit {c : UInt8} {b : List UInt8} : ∀ {a : List UInt8}, c ∉ a → Lib.index (a ++ c :: b) [c] = a.length
  | [], _ => by simp [Lib.index, List.isPrefixOf]
  | x :: a, h => by
    have h1 : x ≠ c := fun e => h (by simp [e])
    have h2 : c ∉ a := fun e => h (by simp [e])
    rw [List.cons_append, Lib.index, index_hit h2]
    simp only [List.isPrefixOf, Bool.and_true, beq_iff_eq, Ne.symm h1, if_false, List.length_cons]
    rw [if_neg (by omega)]; omega
theorem cut_none {c : UInt8} {l : List UInt8} (h : c ∉ l) : Lib.cut l [c] = (l, [], false) := by
  unfold Lib.cut; rw [index_none h]; simp
theorem cut_hit {c : UInt8} {a b : List UInt8} (h : c ∉ a) : Lib.cut (a ++ c :: b) [c] = (a, b, true) := by
  unfold Lib.cut; rw [index_hit h, if_pos (by omega)]
  simp
theorem splitK_sps {c : UInt8} : ∀ (k : Nat) (l : List UInt8), l.count c = k → Lib.splitK [c] 0 k l = sps c l
  | 0, l, h => by rw [sps_none (List.count_eq_zero.1 h)]; rfl
  | k + 1, l, h => by
    rcases sps_cases c l with h1 | ⟨a, b, h1, rfl⟩
    · rw [List.count_eq_zero.2 h1] at h; cases h
    · rw [sps_hit h1, Lib.splitK, index_hit h1, if_neg (by simp)]
      simp only [List.count_append, List.count_cons_self, List.count_eq_zero.2 h1] at h
      have ih := splitK_sps (c := c) k b (by omega)
      simp only [Int.toNat_natCast, Nat.add_zero, List.length_cons, List.length_nil]
      rw [List.take_left, show a.length + (0 + 1) = a.length + 1 by omega, List.drop_append, List.drop_of_length_le (by omega), show a.length + 1 - a.length = 1 by omega]
      simp only [List.nil_append, List.drop_succ_cons, List.drop_zero]
      rw [ih]
theorem split_sps (c : UInt8) (l : List UInt8) : Lib.split l [c] = sps c l := by
  unfold Lib.split; rw [Lib.count_one]; exact splitK_sps _ l rfl
theorem splitB_sps (c : UInt8) (l : List UInt8) : (Lib.splitB ⟨#[c]⟩ 0 (Lib.countB ⟨l.toArray⟩ ⟨#[c]⟩) ⟨l.toArray⟩).map Value.string = (sps c l).map str ∧ Lib.countB ⟨l.toArray⟩ ⟨#[c]⟩ + 1 = (sps c l).length := by
  have hc : Lib.countB ⟨l.toArray⟩ ⟨#[c]⟩ = l.count c := by
    have := Lib.count_one c l
    simpa [Lib.countB] using this
  refine ⟨?_, by rw [hc, (sps_length c _ l (Nat.le_refl _)).1]⟩
  have h := Lib.splitB_data ⟨#[c]⟩ 0 (Lib.countB ⟨l.toArray⟩ ⟨#[c]⟩) ⟨l.toArray⟩
  have h2 : (Lib.splitB ⟨#[c]⟩ 0 (Lib.countB ⟨l.toArray⟩ ⟨#[c]⟩) ⟨l.toArray⟩).map (·.data.toList) = sps c l := by
    rw [h, hc]
    exact splitK_sps _ l rfl
  rw [← h2, List.map_map]
  apply List.map_congr_left
  intro x _
  simp [str]
/-- A space within makes no numeral. -/
theorem decFrom_space {c : UInt8} (hc : Lib.digitVal c = none) : ∀ {l : List UInt8} {acc : Nat}, c ∈ l → Lib.decFrom acc l = none
  | [], _, h => by cases h
  | b :: r, acc, h => by
    rw [Lib.decFrom]
    cases hb : Lib.digitVal b with
    | none => rfl
    | some d =>
      rcases List.mem_cons.1 h with rfl | h
      · rw [hc] at hb; cases hb
      · exact decFrom_space hc h
theorem readDec_space {c : UInt8} (hc : Lib.digitVal c = none) (h45 : c ≠ 45) {s : List UInt8} (h : c ∈ s) : readDec s = none := by
  unfold readDec
  have hm : c ∈ mag s := by
    unfold mag
    split
    · cases s with
      | nil => cases h
      | cons a r =>
        rename_i h9
        simp only [List.head?_cons, Option.some.injEq] at h9; subst h9
        rcases List.mem_cons.1 h with e | e
        · exact absurd e h45
        · exact e
    · exact h
  rw [decFrom_space hc hm]
  simp
theorem digit32 : Lib.digitVal 32 = none := rfl
theorem readDec_nil : readDec [] = none := by simp [readDec, mag]
end Go.V
