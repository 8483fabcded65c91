/- The agreed offset: the beginning that lies in the most ranges, the least of them, and where their common part ends. -/
import Derived.Test.YtbbechcbdeknnaaD7
set_option linter.all false
namespace Go.V
open Go

def beginOf (m : Mach) : Int := m.offset - m.delay
def endOf (m : Mach) : Int := m.offset + m.delay
def liesB (m : Mach) (b : Int) : Bool := decide (beginOf m ≤ b) && decide (b ≤ endOf m)
/-- How many of the first k ranges the place lies in. -/
def countTo (xs : List Mach) (b : Int) : Nat → Int
  | 0 => 0
  | k + 1 => match xs[k]? with
    | some x => if liesB x b = true then countTo xs b k + 1 else countTo xs b k
    | none => countTo xs b k
/-- The first end of those among the first k that the place lies in. -/
def endTo (xs : List Mach) (b e : Int) : Nat → Int
  | 0 => e
  | k + 1 => match xs[k]? with
    | some x => if liesB x b = true then min (endTo xs b e k) (endOf x) else endTo xs b e k
    | none => endTo xs b e k
section
variable {xs : List Mach} {b e : Int} {k : Nat} {x : Mach}
theorem countTo_T (hx : xs[k]? = some x) (h : liesB x b = true) : countTo xs b (k + 1) = countTo xs b k + 1 := by simp [countTo, hx, h]
theorem countTo_F (hx : xs[k]? = some x) (h : liesB x b = false) : countTo xs b (k + 1) = countTo xs b k := by simp [countTo, hx, h]
theorem endTo_T (hx : xs[k]? = some x) (h : liesB x b = true) : endTo xs b e (k + 1) = min (endTo xs b e k) (endOf x) := by simp [endTo, hx, h]
theorem endTo_F (hx : xs[k]? = some x) (h : liesB x b = false) : endTo xs b e (k + 1) = endTo xs b e k := by simp [endTo, hx, h]
theorem countTo_lim (k : Nat) : 0 ≤ countTo xs b k ∧ countTo xs b k ≤ k := by
  induction k with
  | zero => simp [countTo]
  | succ k ih => simp only [countTo]; split <;> (try split) <;> omega
theorem countTo_pos (hx : xs[k]? = some x) (h : liesB x b = true) : ∀ n, k < n → 1 ≤ countTo xs b n := by
  intro n hn
  induction n with
  | zero => omega
  | succ n ih =>
    by_cases e : n = k
    · subst e; rw [countTo_T hx h]; have := countTo_lim (xs := xs) (b := b) n; omega
    · have := ih (by omega)
      simp only [countTo]; split <;> (try split) <;> omega
theorem endTo_min (k : Nat) (e' : Int) : endTo xs b (min e e') k = min (endTo xs b e k) e' := by
  induction k with
  | zero => rfl
  | succ k ih => simp only [endTo]; split <;> (try split) <;> omega
theorem endTo_in (hx : xs[k]? = some x) (h : liesB x b = true) : ∀ n, k < n → endTo xs b e n ≤ endOf x := by
  intro n hn
  induction n with
  | zero => omega
  | succ n ih =>
    by_cases e1 : n = k
    · subst e1; rw [endTo_T hx h]; omega
    · have := ih (by omega)
      simp only [endTo]; split <;> (try split) <;> omega
theorem endTo_own (hx : xs[k]? = some x) (h : liesB x b = true) (hk : k < xs.length) (he : endOf x ≤ e) : endTo xs b (endOf x) xs.length = endTo xs b e xs.length := by
  have h1 := endTo_min (xs := xs) (b := b) (e := e) xs.length (endOf x)
  rw [Int.min_eq_right he] at h1
  rw [h1]
  have := endTo_in (e := e) hx h xs.length hk
  omega
theorem endTo_lim (h : ∀ (k : Nat) x, xs[k]? = some x → -2000000000 ≤ endOf x ∧ endOf x ≤ 2000000000) (he : -2000000000 ≤ e ∧ e ≤ 3000000000) (k : Nat) : -2000000000 ≤ endTo xs b e k ∧ endTo xs b e k ≤ 3000000000 := by
  induction k with
  | zero => simpa [endTo] using he
  | succ k ih =>
    simp only [endTo]
    split
    · next x hx => have := h _ _ hx; split <;> omega
    · exact ih
end
/-- The best beginning among the first k, and in how many it lies. -/
def bestB (xs : List Mach) : Nat → Int × Int
  | 0 => (0, 0)
  | k + 1 => match xs[k]? with
    | some x => if countTo xs (beginOf x) xs.length > (bestB xs k).2 ∨ (countTo xs (beginOf x) xs.length = (bestB xs k).2 ∧ beginOf x < (bestB xs k).1) then (beginOf x, countTo xs (beginOf x) xs.length) else bestB xs k
    | none => bestB xs k
section
variable {xs : List Mach} {k : Nat} {x : Mach}
theorem bestB_T (hx : xs[k]? = some x) (h : countTo xs (beginOf x) xs.length > (bestB xs k).2 ∨ (countTo xs (beginOf x) xs.length = (bestB xs k).2 ∧ beginOf x < (bestB xs k).1)) :
    bestB xs (k + 1) = (beginOf x, countTo xs (beginOf x) xs.length) := by simp only [bestB, hx]; rw [if_pos h]
theorem bestB_F (hx : xs[k]? = some x) (h : ¬ (countTo xs (beginOf x) xs.length > (bestB xs k).2 ∨ (countTo xs (beginOf x) xs.length = (bestB xs k).2 ∧ beginOf x < (bestB xs k).1))) :
    bestB xs (k + 1) = bestB xs k := by simp only [bestB, hx]; rw [if_neg h]
/-- Where the common part of the best beginning ends. -/
def untilB (xs : List Mach) (k : Nat) : Int := if k = 0 then 0 else endTo xs (bestB xs k).1 3000000000 xs.length
theorem lies_own (h : okMachine x = true) : liesB x (beginOf x) = true := by
  have := mach_lim h
  unfold liesB beginOf endOf
  rw [Bool.and_eq_true, decide_eq_true_eq, decide_eq_true_eq]
  constructor <;> omega
theorem first_best (hx : xs[0]? = some x) (h : okMachine x = true) : countTo xs (beginOf x) xs.length > (bestB xs 0).2 := by
  have := countTo_pos hx (lies_own h) xs.length (lt_of_get hx)
  simp [bestB]; omega
theorem ends_lim (h : okMachines xs = true) : ∀ (k : Nat) x, xs[k]? = some x → -2000000000 ≤ endOf x ∧ endOf x ≤ 2000000000 := fun k x hx => by
  have := mach_lim (machines_at h hx); unfold endOf; omega
theorem begins_lim (h : okMachine x = true) : -2000000000 ≤ beginOf x ∧ beginOf x ≤ 2000000000 ∧ -2000000000 ≤ endOf x ∧ endOf x ≤ 2000000000 := by
  have := mach_lim h; unfold beginOf endOf; omega
theorem bestB_lim (h : okMachines xs = true) (k : Nat) : -2000000000 ≤ (bestB xs k).1 ∧ (bestB xs k).1 ≤ 2000000000 ∧ 0 ≤ (bestB xs k).2 ∧ (bestB xs k).2 ≤ xs.length := by
  induction k with
  | zero => simp [bestB]
  | succ k ih =>
    simp only [bestB]
    split
    · next x hx =>
      have h1 := begins_lim (machines_at h hx)
      have h2 := countTo_lim (xs := xs) (b := beginOf x) xs.length
      split
      · simp only; omega
      · exact ih
    · exact ih
theorem untilB_T (hok : okMachines xs = true) (hx : xs[k]? = some x) (h : countTo xs (beginOf x) xs.length > (bestB xs k).2 ∨ (countTo xs (beginOf x) xs.length = (bestB xs k).2 ∧ beginOf x < (bestB xs k).1)) :
    untilB xs (k + 1) = endTo xs (beginOf x) (endOf x) xs.length := by
  unfold untilB
  rw [if_neg (by omega), bestB_T hx h, endTo_own hx (lies_own (machines_at hok hx)) (lt_of_get hx) (e := 3000000000) (by have := begins_lim (machines_at hok hx); omega)]
theorem untilB_F (hok : okMachines xs = true) (hx : xs[k]? = some x) (h : ¬ (countTo xs (beginOf x) xs.length > (bestB xs k).2 ∨ (countTo xs (beginOf x) xs.length = (bestB xs k).2 ∧ beginOf x < (bestB xs k).1))) :
    untilB xs (k + 1) = untilB xs k := by
  have hk : k ≠ 0 := by
    rintro rfl
    exact h (.inl (first_best hx (machines_at hok hx)))
  unfold untilB
  rw [if_neg (by omega), if_neg hk, bestB_F hx h]
end
def agreedOffset (xs : List Mach) : Int × Int × Int × Int :=
  if askMachines xs = 0 then ((bestB xs xs.length).1, untilB xs xs.length, (bestB xs xs.length).2, 0) else (0, 0, 0, askMachines xs)
end Go.V
namespace Go.V
open Go
theorem agreed_bad {xs : List Mach} (h : ¬ askMachines xs = 0) : PV.tup [.v (.int .i64 0), .v (.int .i64 0), .v (.int .i64 0), .v (.int .i64 (askMachines xs))] =
    .tup [.v (.int .i64 (agreedOffset xs).1), .v (.int .i64 (agreedOffset xs).2.1), .v (.int .i64 (agreedOffset xs).2.2.1), .v (.int .i64 (agreedOffset xs).2.2.2)] := by
  unfold agreedOffset; rw [if_neg h]
theorem agreed_ok {xs : List Mach} (h : askMachines xs = 0) (hl : 0 < xs.length) : PV.tup [.v (.int .i64 (bestB xs xs.length).1), .v (.int .i64 (endTo xs (bestB xs xs.length).1 3000000000 xs.length)), .v (.int .i64 (bestB xs xs.length).2), .v (.int .i64 0)] =
    .tup [.v (.int .i64 (agreedOffset xs).1), .v (.int .i64 (agreedOffset xs).2.1), .v (.int .i64 (agreedOffset xs).2.2.1), .v (.int .i64 (agreedOffset xs).2.2.2)] := by
  unfold agreedOffset; rw [if_pos h]; unfold untilB; rw [if_neg (by omega)]
end Go.V
