/- What the program's functions on machines' ways, files' sums and marks' fits answer. -/
import Derived.Test.YtbbechcbdeknnaaD6
set_option linter.all false
namespace Go.V
open Go

def sampleAt (xs : List Sample) (i : Int) : Sample := (xs[i.toNat]?).getD default
def machineOf (n : List UInt8) (xs : List Sample) : Mach × Int :=
  if isName n = true then (if (bestSample xs).2 = 0 then (⟨n, (offsetOf (sampleAt xs (bestSample xs).1)).1, (offsetOf (sampleAt xs (bestSample xs).1)).2.1⟩, 0) else (⟨[], 0, 0⟩, (bestSample xs).2)) else (⟨[], 0, 0⟩, 1)
theorem best_ok {xs : List Sample} (h : (bestSample xs).2 = 0) : ∃ (k : Nat) (x : Sample), xs[k]? = some x ∧ (bestSample xs).1 = (k : Int) ∧ sampleAt xs (bestSample xs).1 = x := by
  unfold bestSample at h ⊢
  split
  · split
    · next h1 h2 =>
      have hl : 1 ≤ xs.length := by simp at h2; omega
      have hb : bestTo ltSample xs xs.length < xs.length := bestTo_le (Nat.le_refl _) (by omega)
      obtain ⟨x, hx⟩ := get_some hb
      exact ⟨_, x, hx, rfl, by simp [sampleAt, hx]⟩
    · next h1 h2 => rw [if_pos h1, if_neg h2] at h; simp at h
  · next h1 => rw [if_neg h1] at h; simp at h

/-- Sums. -/
def sumTo {α : Type} (f : α → Int) (xs : List α) : Nat → Int
  | 0 => 0
  | k + 1 => match xs[k]? with
    | some x => sumTo f xs k + f x
    | none => sumTo f xs k
theorem sumTo_succ {α : Type} {f : α → Int} {xs : List α} {k : Nat} {x : α} (h : xs[k]? = some x) : sumTo f xs (k + 1) = sumTo f xs k + f x := by simp [sumTo, h]
theorem sumTo_lim {α : Type} {f : α → Int} {xs : List α} {lo hi : Int} (hlo : lo ≤ 0) (hhi : 0 ≤ hi) (h : ∀ (k : Nat) x, xs[k]? = some x → lo ≤ f x ∧ f x ≤ hi) (k : Nat) : lo * k ≤ sumTo f xs k ∧ sumTo f xs k ≤ hi * k := by
  induction k with
  | zero => simp [sumTo]
  | succ k ih =>
    have e1 : lo * ((k + 1 : Nat) : Int) = lo * k + lo := by rw [Int.natCast_add, Int.mul_add]; simp
    have e2 : hi * ((k + 1 : Nat) : Int) = hi * k + hi := by rw [Int.natCast_add, Int.mul_add]; simp
    rw [e1, e2]
    simp only [sumTo]
    split
    · next x hx => have := h _ _ hx; omega
    · omega
def totalSize (xs : List NV) (ns : List (List UInt8)) : Int × Int :=
  if okMedias xs = true then (if ns.all (fun n => !decide (lookup xs n = 0)) = true then (if ns.length > 40 then (0, 5) else (sumTo (lookup xs) ns ns.length, 0)) else (0, 3)) else (0, 1)
def askUses (xs : List NV) (ns : List (List UInt8)) : Int :=
  if okMedias xs = true then (if ns.all (fun n => !decide (lookup xs n = 0)) = true then (if ns.length > 40 then 5 else 0) else 3) else 1

def signed (a b : Int) : Int := if (b % 360000 - a % 360000) % 360000 > 180000 then (b % 360000 - a % 360000) % 360000 - 360000 else (b % 360000 - a % 360000) % 360000
theorem signed_lim (a b : Int) : -180000 ≤ signed a b ∧ signed a b ≤ 180000 := by unfold signed; split <;> omega
def divR (a b : Int) : Int := if a < 0 then -((b - 2 * a) / (2 * b)) else (2 * a + b) / (2 * b)
theorem divR_low {a b : Int} (hb : 0 < b) (h : absI (a.tmod b) < b - absI (a.tmod b)) : a.tdiv b = divR a b := by
  have h1 := Int.mul_tdiv_add_tmod a b
  unfold divR
  by_cases ha : a < 0
  · rw [if_pos ha]
    have h2 : a.tmod b ≤ 0 := by rw [tmodE, if_neg (by omega)]; have := Int.emod_nonneg (-a) (by omega : b ≠ 0); omega
    have h3 := tmod_lo (a := a) hb
    have ea : absI (a.tmod b) = -(a.tmod b) := by unfold absI; split <;> omega
    rw [ea] at h
    have e : b - 2 * a = (b - 2 * (a.tmod b)) + (2 * b) * (-(a.tdiv b)) := by
      have e2 : (2 * b) * (-(a.tdiv b)) = -(2 * (b * a.tdiv b)) := by rw [Int.mul_neg, Int.mul_assoc]
      rw [e2]; omega
    have := (Int.ediv_emod_unique (a := b - 2 * a) (b := 2 * b) (q := -(a.tdiv b)) (r := b - 2 * (a.tmod b)) (by omega)).2 ⟨by rw [e], by omega, by omega⟩
    rw [this.1]; omega
  · rw [if_neg ha]
    have h2 : 0 ≤ a.tmod b := by rw [tmodE, if_pos (by omega)]; exact Int.emod_nonneg a (by omega : b ≠ 0)
    have ea : absI (a.tmod b) = a.tmod b := by unfold absI; split <;> omega
    rw [ea] at h
    have e : 2 * a + b = (2 * (a.tmod b) + b) + (2 * b) * (a.tdiv b) := by
      have e2 : (2 * b) * (a.tdiv b) = 2 * (b * a.tdiv b) := by rw [Int.mul_assoc]
      rw [e2]; omega
    exact ((Int.ediv_emod_unique (a := 2 * a + b) (b := 2 * b) (q := a.tdiv b) (r := 2 * (a.tmod b) + b) (by omega)).2 ⟨by rw [e], by omega, by omega⟩).1.symm
theorem divR_up {a b : Int} (hb : 0 < b) (ha : ¬ a < 0) (h : ¬ absI (a.tmod b) < b - absI (a.tmod b)) : a.tdiv b + 1 = divR a b := by
  have h1 := Int.mul_tdiv_add_tmod a b
  unfold divR
  rw [if_neg ha]
  have h2 : 0 ≤ a.tmod b := by rw [tmodE, if_pos (by omega)]; exact Int.emod_nonneg a (by omega : b ≠ 0)
  have h3 := tmod_hi (a := a) hb
  have ea : absI (a.tmod b) = a.tmod b := by unfold absI; split <;> omega
  rw [ea] at h
  have e : 2 * a + b = (2 * (a.tmod b) - b) + (2 * b) * (a.tdiv b + 1) := by
    have e2 : (2 * b) * (a.tdiv b + 1) = 2 * (b * a.tdiv b) + 2 * b := by rw [Int.mul_add, Int.mul_assoc, Int.mul_one]
    rw [e2]; omega
  exact ((Int.ediv_emod_unique (a := 2 * a + b) (b := 2 * b) (q := a.tdiv b + 1) (r := 2 * (a.tmod b) - b) (by omega)).2 ⟨by rw [e], by omega, by omega⟩).1.symm
theorem divR_down {a b : Int} (hb : 0 < b) (ha : a < 0) (h : ¬ absI (a.tmod b) < b - absI (a.tmod b)) : a.tdiv b - 1 = divR a b := by
  have h1 := Int.mul_tdiv_add_tmod a b
  unfold divR
  rw [if_pos ha]
  have h2 : a.tmod b ≤ 0 := by rw [tmodE, if_neg (by omega)]; have := Int.emod_nonneg (-a) (by omega : b ≠ 0); omega
  have h3 := tmod_lo (a := a) hb
  have ea : absI (a.tmod b) = -(a.tmod b) := by unfold absI; split <;> omega
  rw [ea] at h
  have e : b - 2 * a = (-b - 2 * (a.tmod b)) + (2 * b) * (-(a.tdiv b) + 1) := by
    have e2 : (2 * b) * (-(a.tdiv b) + 1) = -(2 * (b * a.tdiv b)) + 2 * b := by rw [Int.mul_add, Int.mul_neg, Int.mul_assoc, Int.mul_one]
    rw [e2]; omega
  have := (Int.ediv_emod_unique (a := b - 2 * a) (b := 2 * b) (q := -(a.tdiv b) + 1) (r := -b - 2 * (a.tmod b)) (by omega)).2 ⟨by rw [e], by omega, by omega⟩
  rw [this.1]; omega
def askMarks (xs : List CMark) : Int := if xs.all okMark = true then (if decide (1 ≤ xs.length) && decide (xs.length ≤ 24) then 0 else 2) else 1
theorem askMarks_ok {xs : List CMark} (h : askMarks xs = 0) : xs.all okMark = true ∧ 1 ≤ xs.length ∧ xs.length ≤ 24 := by
  unfold askMarks at h
  split at h
  · next h1 =>
    split at h
    · next h2 => simp at h2; exact ⟨h1, h2.1, h2.2⟩
    · omega
  · omega
theorem mark_lim {x : CMark} (h : okMark x = true) : 0 ≤ x.az ∧ x.az ≤ 359999 ∧ 0 ≤ x.al ∧ x.al ≤ 90000 ∧ 0 ≤ x.found ∧ x.found ≤ 359999 ∧ 0 ≤ x.height ∧ x.height ≤ 90000 := by
  simp only [okMark, spotB, Bool.and_eq_true, decide_eq_true_eq] at h; omega
def turnOf (x : CMark) : Int := signed x.found x.az
def liftOf (x : CMark) : Int := x.al - x.height
def fitMarks (xs : List CMark) : Int × Int × Int :=
  if askMarks xs = 0 then (divR (sumTo turnOf xs xs.length) xs.length, divR (sumTo liftOf xs xs.length) xs.length, 0) else (0, 0, askMarks xs)
theorem turn_lim (xs : List CMark) (k : Nat) : -180000 * (k : Int) ≤ sumTo turnOf xs k ∧ sumTo turnOf xs k ≤ 180000 * k := sumTo_lim (by omega) (by omega) (fun _ x _ => signed_lim _ _) k
theorem lift_lim {xs : List CMark} (h : xs.all okMark = true) (k : Nat) : -90000 * (k : Int) ≤ sumTo liftOf xs k ∧ sumTo liftOf xs k ≤ 90000 * k :=
  sumTo_lim (by omega) (by omega) (fun _ x hx => by have := mark_lim (all_at h hx); unfold liftOf; omega) k
end Go.V
namespace Go.V
open Go
theorem tdiv_abs {a b : Int} (hb : 0 < b) : absI (a.tdiv b) ≤ absI a := by
  by_cases h : 0 ≤ a
  · have := tdiv_small h hb; unfold absI; split <;> split <;> omega
  · have h2 := tdiv_small (a := -a) (by omega) hb
    rw [Int.neg_tdiv] at h2
    unfold absI; split <;> split <;> omega
theorem askUses_ok {xs : List NV} {ns : List (List UInt8)} (h : askUses xs ns = 0) : okMedias xs = true ∧ ns.all (fun n => !decide (lookup xs n = 0)) = true ∧ ns.length ≤ 40 := by
  unfold askUses at h
  split at h
  · split at h
    · split at h
      · omega
      · exact ⟨by assumption, by assumption, by omega⟩
    · omega
  · omega
theorem lookups_lim {xs : List NV} {ns : List (List UInt8)} (h : okMedias xs = true) (k : Nat) : 0 * (k : Int) ≤ sumTo (lookup xs) ns k ∧ sumTo (lookup xs) ns k ≤ 100000 * k :=
  sumTo_lim (by omega) (by omega) (fun _ n _ => lookup_lim h n) k
theorem total_eq (xs : List NV) (ns : List (List UInt8)) : totalSize xs ns = if askUses xs ns = 0 then (sumTo (lookup xs) ns ns.length, 0) else (0, askUses xs ns) := by
  unfold totalSize askUses; split <;> (try split) <;> (try split) <;> first | rfl | (simp_all; done) | omega
theorem total_bad {xs : List NV} {ns : List (List UInt8)} (h : ¬ askUses xs ns = 0) : PV.tup [.v (.int .i64 0), .v (.int .i64 (askUses xs ns))] = .tup [.v (.int .i64 (totalSize xs ns).1), .v (.int .i64 (totalSize xs ns).2)] := by
  rw [total_eq, if_neg h]
theorem total_ok {xs : List NV} {ns : List (List UInt8)} (h1 : okMedias xs = true) (h2 : ns.all (fun n => !decide (lookup xs n = 0)) = true) (h3 : ns.length ≤ 40) :
    PV.tup [.v (.int .i64 (sumTo (lookup xs) ns ns.length)), .v (.int .i64 0)] = .tup [.v (.int .i64 (totalSize xs ns).1), .v (.int .i64 (totalSize xs ns).2)] := by
  have : askUses xs ns = 0 := by unfold askUses; rw [if_pos h1, if_pos h2, if_neg (by omega)]
  rw [total_eq, if_pos this]
end Go.V
