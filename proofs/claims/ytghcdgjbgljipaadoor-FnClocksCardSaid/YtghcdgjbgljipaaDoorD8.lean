/- The agreed offset: the beginning that lies in the most ranges, the least of them, and where their common part ends. -/
import Derived.Test.YtghcdgjbgljipaaDoorD4
set_option linter.all false
/- More plain laws. -/
namespace Go.V
open Go
theorem absI_lim (n : Int) : (0 ≤ absI n) ∧ (n ≤ absI n) ∧ (-n ≤ absI n) ∧ (absI n = n ∨ absI n = -n) := by unfold absI; split <;> omega
end Go.V
/- What the program's functions on files, due days and leads answer. -/
namespace Go.V
open Go

/-- The number that stands behind a name; 0 if there is none. -/
def lookup (xs : List NV) (n : List UInt8) : Int := ((xs.find? fun x => decide (x.name = n)).map NV.val).getD 0
theorem lookup_hit {xs : List NV} {n : List UInt8} {k : Nat} {x : NV} (h : anyTo (fun x : NV => decide (x.name = n)) xs k = false) (hx : xs[k]? = some x) (hn : x.name = n) : lookup xs n = x.val := by
  have : xs.find? (fun x => decide (x.name = n)) = some x := by
    rw [List.find?_eq_some_iff_getElem]
    have hk := lt_of_get hx
    refine ⟨by simpa using hn, k, hk, by rw [List.getElem?_eq_getElem hk] at hx; exact Option.some.inj hx, ?_⟩
    intro j hj
    have hm : xs[j]'(by omega) ∈ xs.take k := by rw [List.mem_take_iff_getElem]; exact ⟨j, by omega, rfl⟩
    have := List.any_eq_false.1 h _ hm
    simpa using this
  simp [lookup, this]
theorem lookup_miss {xs : List NV} {n : List UInt8} (h : anyTo (fun x : NV => decide (x.name = n)) xs xs.length = false) : lookup xs n = 0 := by
  rw [anyTo_all] at h
  have : xs.find? (fun x => decide (x.name = n)) = none := by
    rw [List.find?_eq_none]; intro x hx; simpa using List.any_eq_false.1 h x hx
  simp [lookup, this]
theorem lookup_lim {xs : List NV} (h : okMedias xs = true) (n : List UInt8) : 0 ≤ lookup xs n ∧ lookup xs n ≤ 100000 := by
  unfold lookup
  cases hf : xs.find? (fun x => decide (x.name = n)) with
  | none => simp
  | some x =>
    obtain ⟨k, hk⟩ := List.getElem?_of_mem (List.mem_of_find?_eq_some hf)
    have h1 : okB okMedia geNV xs = true := by unfold okMedias at h; grind
    have h2 := okB_at h1 hk
    simp only [okMedia, Bool.and_eq_true, decide_eq_true_eq] at h2
    simp; omega
def loadTime (xs : List NV) (n : List UInt8) (b : Int) : Int × Int :=
  if okMedias xs = true then (if decide (1 ≤ b) && decide (b ≤ 100000) then (if lookup xs n = 0 then (0, 3) else ((1000 * lookup xs n + b - 1) / b, 0)) else (0, 2)) else (0, 1)

theorem tdiv_small {a b : Int} (ha : 0 ≤ a) (hb : 0 < b) : 0 ≤ a.tdiv b ∧ a.tdiv b ≤ a := by
  rw [Int.tdiv_eq_ediv_of_nonneg ha]
  exact ⟨Int.ediv_nonneg ha (by omega), Int.ediv_le_self b ha⟩
theorem driftTo_nonneg (xs : List Session) (k : Nat) : 0 ≤ driftTo xs k := by
  induction k with
  | zero => simp [driftTo]
  | succ k ih =>
    simp only [driftTo]
    split
    · omega
    · split <;> omega
def lastS (xs : List Session) : Session := (xs[xs.length - 1]?).getD default
theorem lastS_eq {xs : List Session} {x : Session} (h : xs[xs.length - 1]? = some x) : lastS xs = x := by simp [lastS, h]
def dueDay (xs : List Session) (l : Int) : Int × Int :=
  if okSessions xs = true then (if decide (0 ≤ l) && decide (l ≤ 180000) then (if (lastS xs).error > l then ((lastS xs).day, 0) else if driftTo xs xs.length = 0 then (0, 3)
    else if (lastS xs).day + (l - (lastS xs).error).tdiv (driftTo xs xs.length) + 1 > 100000 then (0, 3) else ((lastS xs).day + (l - (lastS xs).error).tdiv (driftTo xs xs.length) + 1, 0)) else (0, 2)) else (0, 1)
theorem sessions_len {xs : List Session} (h : okSessions xs = true) : 1 ≤ xs.length ∧ xs.length ≤ 32 := by unfold okSessions at h; grind
theorem sessions_at {xs : List Session} {k : Nat} {x : Session} (h : okSessions xs = true) (hx : xs[k]? = some x) : okSession x = true := by
  have : okB okSession geDay xs = true := by unfold okSessions at h; grind
  exact okB_at this hx

/-- The greatest among the first k, and 0. -/
def maxTo {α : Type} (f : α → Int) (xs : List α) : Nat → Int
  | 0 => 0
  | k + 1 => match xs[k]? with
    | some x => max (maxTo f xs k) (f x)
    | none => maxTo f xs k
theorem maxTo_succ {α : Type} {f : α → Int} {xs : List α} {k : Nat} {x : α} (h : xs[k]? = some x) : maxTo f xs (k + 1) = max (maxTo f xs k) (f x) := by simp [maxTo, h]
theorem maxTo_nonneg {α : Type} (f : α → Int) (xs : List α) (k : Nat) : 0 ≤ maxTo f xs k := by
  induction k with
  | zero => simp [maxTo]
  | succ k ih => simp only [maxTo]; split <;> omega
theorem maxTo_le {α : Type} {f : α → Int} {xs : List α} {b : Int} (hb : 0 ≤ b) (h : ∀ (k : Nat) x, xs[k]? = some x → f x ≤ b) (k : Nat) : maxTo f xs k ≤ b := by
  induction k with
  | zero => simpa [maxTo] using hb
  | succ k ih =>
    simp only [maxTo]
    split
    · next x hx => have := h _ _ hx; omega
    · exact ih
def askMachines (xs : List Mach) : Int := if okMachines xs = true then (if xs.length = 0 then 3 else 0) else 1
theorem ask_ok {xs : List Mach} (h : askMachines xs = 0) : okMachines xs = true ∧ xs.length ≠ 0 := by
  unfold askMachines at h; split at h
  · split at h
    · omega
    · exact ⟨by assumption, by assumption⟩
  · omega
theorem machines_at {xs : List Mach} {k : Nat} {x : Mach} (h : okMachines xs = true) (hx : xs[k]? = some x) : okMachine x = true := by
  have : okB okMachine geMachine xs = true := by unfold okMachines at h; grind
  exact okB_at this hx
theorem machines_len {xs : List Mach} (h : okMachines xs = true) : xs.length ≤ 8 := by unfold okMachines at h; grind
theorem delay_lim {xs : List Mach} (h : okMachines xs = true) (k : Nat) : 0 ≤ maxTo Mach.delay xs k ∧ maxTo Mach.delay xs k ≤ 1000000000 :=
  ⟨maxTo_nonneg _ _ _, maxTo_le (by omega) (fun _ _ hx => (mach_lim (machines_at h hx)).2.2.2.2) _⟩
def leadFor (xs : List Mach) (m : Int) : Int × Int :=
  if askMachines xs = 0 then (if decide (0 ≤ m) && decide (m ≤ 1000000000) then ((maxTo Mach.delay xs xs.length + 1) / 2 + m, 0) else (0, 2)) else (0, askMachines xs)
theorem half_up {a : Int} (h : 0 ≤ a) : (a + 1).tdiv 2 = (a + 1) / 2 := Int.tdiv_eq_ediv_of_nonneg (by omega)
end Go.V
/- What the program's functions on machines' ways, files' sums and marks' fits answer. -/
namespace Go.V
open Go

def sampleAt (xs : List Sample) (i : Int) : Sample := (xs[i.toNat]?).getD default
def machineOf (n : List UInt8) (xs : List Sample) : Mach × Int :=
  if isName n = true then (if (bestSample xs).2 = 0 then (⟨n, (offsetOf (sampleAt xs (bestSample xs).1)).1, (offsetOf (sampleAt xs (bestSample xs).1)).2.1⟩, 0) else (⟨[], 0, 0⟩, (bestSample xs).2)) else (⟨[], 0, 0⟩, 1)
theorem best_ok {xs : List Sample} (h : (bestSample xs).2 = 0) : ∃ (k : Nat) (x : Sample), xs[k]? = some x ∧ (bestSample xs).1 = (k : Int) ∧ sampleAt xs (bestSample xs).1 = x := by
  unfold bestSample at h ⊢
  split
  · split
    · next h1 h2 =>
      have hl : 1 ≤ xs.length := by simp at h2; omega
      have hb : bestTo ltSample xs xs.length < xs.length := bestTo_le (Nat.le_refl _) (by omega)
      obtain ⟨x, hx⟩ := get_some hb
      exact ⟨_, x, hx, rfl, by simp [sampleAt, hx]⟩
    · next h1 h2 => rw [if_pos h1, if_neg h2] at h; simp at h
  · next h1 => rw [if_neg h1] at h; simp at h

/-- Sums. -/
def sumTo {α : Type} (f : α → Int) (xs : List α) : Nat → Int
  | 0 => 0
  | k + 1 => match xs[k]? with
    | some x => sumTo f xs k + f x
    | none => sumTo f xs k
theorem sumTo_succ {α : Type} {f : α → Int} {xs : List α} {k : Nat} {x : α} (h : xs[k]? = some x) : sumTo f xs (k + 1) = sumTo f xs k + f x := by simp [sumTo, h]
theorem sumTo_lim {α : Type} {f : α → Int} {xs : List α} {lo hi : Int} (hlo : lo ≤ 0) (hhi : 0 ≤ hi) (h : ∀ (k : Nat) x, xs[k]? = some x → lo ≤ f x ∧ f x ≤ hi) (k : Nat) : lo * k ≤ sumTo f xs k ∧ sumTo f xs k ≤ hi * k := by
  induction k with
  | zero => simp [sumTo]
  | succ k ih =>
    have e1 : lo * ((k + 1 : Nat) : Int) = lo * k + lo := by rw [Int.natCast_add, Int.mul_add]; simp
    have e2 : hi * ((k + 1 : Nat) : Int) = hi * k + hi := by rw [Int.natCast_add, Int.mul_add]; simp
    rw [e1, e2]
    simp only [sumTo]
    split
    · next x hx => have := h _ _ hx; omega
    · omega
def totalSize (xs : List NV) (ns : List (List UInt8)) : Int × Int :=
  if okMedias xs = true then (if ns.all (fun n => !decide (lookup xs n = 0)) = true then (if ns.length > 40 then (0, 5) else (sumTo (lookup xs) ns ns.length, 0)) else (0, 3)) else (0, 1)
def askUses (xs : List NV) (ns : List (List UInt8)) : Int :=
  if okMedias xs = true then (if ns.all (fun n => !decide (lookup xs n = 0)) = true then (if ns.length > 40 then 5 else 0) else 3) else 1

def signed (a b : Int) : Int := if (b % 360000 - a % 360000) % 360000 > 180000 then (b % 360000 - a % 360000) % 360000 - 360000 else (b % 360000 - a % 360000) % 360000
theorem signed_lim (a b : Int) : -180000 ≤ signed a b ∧ signed a b ≤ 180000 := by unfold signed; split <;> omega
def divR (a b : Int) : Int := if a < 0 then -((b - 2 * a) / (2 * b)) else (2 * a + b) / (2 * b)
theorem divR_low {a b : Int} (hb : 0 < b) (h : absI (a.tmod b) < b - absI (a.tmod b)) : a.tdiv b = divR a b := by
  have h1 := Int.mul_tdiv_add_tmod a b
  unfold divR
  by_cases ha : a < 0
  · rw [if_pos ha]
    have h2 : a.tmod b ≤ 0 := by rw [tmodE, if_neg (by omega)]; have := Int.emod_nonneg (-a) (by omega : b ≠ 0); omega
    have h3 := tmod_lo (a := a) hb
    have ea : absI (a.tmod b) = -(a.tmod b) := by unfold absI; split <;> omega
    rw [ea] at h
    have e : b - 2 * a = (b - 2 * (a.tmod b)) + (2 * b) * (-(a.tdiv b)) := by
      have e2 : (2 * b) * (-(a.tdiv b)) = -(2 * (b * a.tdiv b)) := by rw [Int.mul_neg, Int.mul_assoc]
      rw [e2]; omega
    have := (Int.ediv_emod_unique (a := b - 2 * a) (b := 2 * b) (q := -(a.tdiv b)) (r := b - 2 * (a.tmod b)) (by omega)).2 ⟨by rw [e], by omega, by omega⟩
    rw [this.1]; omega
  · rw [if_neg ha]
    have h2 : 0 ≤ a.tmod b := by rw [tmodE, if_pos (by omega)]; exact Int.emod_nonneg a (by omega : b ≠ 0)
    have ea : absI (a.tmod b) = a.tmod b := by unfold absI; split <;> omega
    rw [ea] at h
    have e : 2 * a + b = (2 * (a.tmod b) + b) + (2 * b) * (a.tdiv b) := by
      have e2 : (2 * b) * (a.tdiv b) = 2 * (b * a.tdiv b) := by rw [Int.mul_assoc]
      rw [e2]; omega
    exact ((Int.ediv_emod_unique (a := 2 * a + b) (b := 2 * b) (q := a.tdiv b) (r := 2 * (a.tmod b) + b) (by omega)).2 ⟨by rw [e], by omega, by omega⟩).1.symm
theorem divR_up {a b : Int} (hb : 0 < b) (ha : ¬ a < 0) (h : ¬ absI (a.tmod b) < b - absI (a.tmod b)) : a.tdiv b + 1 = divR a b := by
  have h1 := Int.mul_tdiv_add_tmod a b
  unfold divR
  rw [if_neg ha]
  have h2 : 0 ≤ a.tmod b := by rw [tmodE, if_pos (by omega)]; exact Int.emod_nonneg a (by omega : b ≠ 0)
  have h3 := tmod_hi (a := a) hb
  have ea : absI (a.tmod b) = a.tmod b := by unfold absI; split <;> omega
  rw [ea] at h
  have e : 2 * a + b = (2 * (a.tmod b) - b) + (2 * b) * (a.tdiv b + 1) := by
    have e2 : (2 * b) * (a.tdiv b + 1) = 2 * (b * a.tdiv b) + 2 * b := by rw [Int.mul_add, Int.mul_assoc, Int.mul_one]
    rw [e2]; omega
  exact ((Int.ediv_emod_unique (a := 2 * a + b) (b := 2 * b) (q := a.tdiv b + 1) (r := 2 * (a.tmod b) - b) (by omega)).2 ⟨by rw [e], by omega, by omega⟩).1.symm
theorem divR_down {a b : Int} (hb : 0 < b) (ha : a < 0) (h : ¬ absI (a.tmod b) < b - absI (a.tmod b)) : a.tdiv b - 1 = divR a b := by
  have h1 := Int.mul_tdiv_add_tmod a b
  unfold divR
  rw [if_pos ha]
  have h2 : a.tmod b ≤ 0 := by rw [tmodE, if_neg (by omega)]; have := Int.emod_nonneg (-a) (by omega : b ≠ 0); omega
  have h3 := tmod_lo (a := a) hb
  have ea : absI (a.tmod b) = -(a.tmod b) := by unfold absI; split <;> omega
  rw [ea] at h
  have e : b - 2 * a = (-b - 2 * (a.tmod b)) + (2 * b) * (-(a.tdiv b) + 1) := by
    have e2 : (2 * b) * (-(a.tdiv b) + 1) = -(2 * (b * a.tdiv b)) + 2 * b := by rw [Int.mul_add, Int.mul_neg, Int.mul_assoc, Int.mul_one]
    rw [e2]; omega
  have := (Int.ediv_emod_unique (a := b - 2 * a) (b := 2 * b) (q := -(a.tdiv b) + 1) (r := -b - 2 * (a.tmod b)) (by omega)).2 ⟨by rw [e], by omega, by omega⟩
  rw [this.1]; omega
def askMarks (xs : List CMark) : Int := if xs.all okMark = true then (if decide (1 ≤ xs.length) && decide (xs.length ≤ 24) then 0 else 2) else 1
theorem askMarks_ok {xs : List CMark} (h : askMarks xs = 0) : xs.all okMark = true ∧ 1 ≤ xs.length ∧ xs.length ≤ 24 := by
  unfold askMarks at h
  split at h
  · next h1 =>
    split at h
    · next h2 => simp at h2; exact ⟨h1, h2.1, h2.2⟩
    · omega
  · omega
theorem mark_lim {x : CMark} (h : okMark x = true) : 0 ≤ x.az ∧ x.az ≤ 359999 ∧ 0 ≤ x.al ∧ x.al ≤ 90000 ∧ 0 ≤ x.found ∧ x.found ≤ 359999 ∧ 0 ≤ x.height ∧ x.height ≤ 90000 := by
  simp only [okMark, spotB, Bool.and_eq_true, decide_eq_true_eq] at h; omega
def turnOf (x : CMark) : Int := signed x.found x.az
def liftOf (x : CMark) : Int := x.al - x.height
def fitMarks (xs : List CMark) : Int × Int × Int :=
  if askMarks xs = 0 then (divR (sumTo turnOf xs xs.length) xs.length, divR (sumTo liftOf xs xs.length) xs.length, 0) else (0, 0, askMarks xs)
theorem turn_lim (xs : List CMark) (k : Nat) : -180000 * (k : Int) ≤ sumTo turnOf xs k ∧ sumTo turnOf xs k ≤ 180000 * k := sumTo_lim (by omega) (by omega) (fun _ x _ => signed_lim _ _) k
theorem lift_lim {xs : List CMark} (h : xs.all okMark = true) (k : Nat) : -90000 * (k : Int) ≤ sumTo liftOf xs k ∧ sumTo liftOf xs k ≤ 90000 * k :=
  sumTo_lim (by omega) (by omega) (fun _ x hx => by have := mark_lim (all_at h hx); unfold liftOf; omega) k
end Go.V
namespace Go.V
open Go
theorem tdiv_abs {a b : Int} (hb : 0 < b) : absI (a.tdiv b) ≤ absI a := by
  by_cases h : 0 ≤ a
  · have := tdiv_small h hb; unfold absI; split <;> split <;> omega
  · have h2 := tdiv_small (a := -a) (by omega) hb
    rw [Int.neg_tdiv] at h2
    unfold absI; split <;> split <;> omega
theorem askUses_ok {xs : List NV} {ns : List (List UInt8)} (h : askUses xs ns = 0) : okMedias xs = true ∧ ns.all (fun n => !decide (lookup xs n = 0)) = true ∧ ns.length ≤ 40 := by
  unfold askUses at h
  split at h
  · split at h
    · split at h
      · omega
      · exact ⟨by assumption, by assumption, by omega⟩
    · omega
  · omega
theorem lookups_lim {xs : List NV} {ns : List (List UInt8)} (h : okMedias xs = true) (k : Nat) : 0 * (k : Int) ≤ sumTo (lookup xs) ns k ∧ sumTo (lookup xs) ns k ≤ 100000 * k :=
  sumTo_lim (by omega) (by omega) (fun _ n _ => lookup_lim h n) k
theorem total_eq (xs : List NV) (ns : List (List UInt8)) : totalSize xs ns = if askUses xs ns = 0 then (sumTo (lookup xs) ns ns.length, 0) else (0, askUses xs ns) := by
  unfold totalSize askUses; split <;> (try split) <;> (try split) <;> first | rfl | (simp_all; done) | omega
theorem total_bad {xs : List NV} {ns : List (List UInt8)} (h : ¬ askUses xs ns = 0) : PV.tup [.v (.int .i64 0), .v (.int .i64 (askUses xs ns))] = .tup [.v (.int .i64 (totalSize xs ns).1), .v (.int .i64 (totalSize xs ns).2)] := by
  rw [total_eq, if_neg h]
theorem total_ok {xs : List NV} {ns : List (List UInt8)} (h1 : okMedias xs = true) (h2 : ns.all (fun n => !decide (lookup xs n = 0)) = true) (h3 : ns.length ≤ 40) :
    PV.tup [.v (.int .i64 (sumTo (lookup xs) ns ns.length)), .v (.int .i64 0)] = .tup [.v (.int .i64 (totalSize xs ns).1), .v (.int .i64 (totalSize xs ns).2)] := by
  have : askUses xs ns = 0 := by unfold askUses; rw [if_pos h1, if_pos h2, if_neg (by omega)]
  rw [total_eq, if_pos this]
end Go.V
namespace Go.V
open Go

def beginOf (m : Mach) : Int := m.offset - m.delay
def endOf (m : Mach) : Int := m.offset + m.delay
def liesB (m : Mach) (b : Int) : Bool := decide (beginOf m ≤ b) && decide (b ≤ endOf m)
/-- How many of the first k ranges the place lies in. -/
def countTo (xs : List Mach) (b : Int) : Nat → Int
  | 0 => 0
  | k + 1 => match xs[k]? with
    | some x => if liesB x b = true then countTo xs b k + 1 else countTo xs b k
    | none => countTo xs b k
/-- The first end of those among the first k that the place lies in. -/
def endTo (xs : List Mach) (b e : Int) : Nat → Int
  | 0 => e
  | k + 1 => match xs[k]? with
    | some x => if liesB x b = true then min (endTo xs b e k) (endOf x) else endTo xs b e k
    | none => endTo xs b e k
section
variable {xs : List Mach} {b e : Int} {k : Nat} {x : Mach}
theorem countTo_T (hx : xs[k]? = some x) (h : liesB x b = true) : countTo xs b (k + 1) = countTo xs b k + 1 := by simp [countTo, hx, h]
theorem countTo_F (hx : xs[k]? = some x) (h : liesB x b = false) : countTo xs b (k + 1) = countTo xs b k := by simp [countTo, hx, h]
theorem endTo_T (hx : xs[k]? = some x) (h : liesB x b = true) : endTo xs b e (k + 1) = min (endTo xs b e k) (endOf x) := by simp [endTo, hx, h]
theorem endTo_F (hx : xs[k]? = some x) (h : liesB x b = false) : endTo xs b e (k + 1) = endTo xs b e k := by simp [endTo, hx, h]
theorem countTo_lim (k : Nat) : 0 ≤ countTo xs b k ∧ countTo xs b k ≤ k := by
  induction k with
  | zero => simp [countTo]
  | succ k ih => simp only [countTo]; split <;> (try split) <;> omega
theorem countTo_pos (hx : xs[k]? = some x) (h : liesB x b = true) : ∀ n, k < n → 1 ≤ countTo xs b n := by
  intro n hn
  induction n with
  | zero => omega
  | succ n ih =>
    by_cases e : n = k
    · subst e; rw [countTo_T hx h]; have := countTo_lim (xs := xs) (b := b) n; omega
    · have := ih (by omega)
      simp only [countTo]; split <;> (try split) <;> omega
theorem endTo_min (k : Nat) (e' : Int) : endTo xs b (min e e') k = min (endTo xs b e k) e' := by
  induction k with
  | zero => rfl
  | succ k ih => simp only [endTo]; split <;> (try split) <;> omega
theorem endTo_in (hx : xs[k]? = some x) (h : liesB x b = true) : ∀ n, k < n → endTo xs b e n ≤ endOf x := by
  intro n hn
  induction n with
  | zero => omega
  | succ n ih =>
    by_cases e1 : n = k
    · subst e1; rw [endTo_T hx h]; omega
    · have := ih (by omega)
      simp only [endTo]; split <;> (try split) <;> omega
theorem endTo_own (hx : xs[k]? = some x) (h : liesB x b = true) (hk : k < xs.length) (he : endOf x ≤ e) : endTo xs b (endOf x) xs.length = endTo xs b e xs.length := by
  have h1 := endTo_min (xs := xs) (b := b) (e := e) xs.length (endOf x)
  rw [Int.min_eq_right he] at h1
  rw [h1]
  have := endTo_in (e := e) hx h xs.length hk
  omega
theorem endTo_lim (h : ∀ (k : Nat) x, xs[k]? = some x → -2000000000 ≤ endOf x ∧ endOf x ≤ 2000000000) (he : -2000000000 ≤ e ∧ e ≤ 3000000000) (k : Nat) : -2000000000 ≤ endTo xs b e k ∧ endTo xs b e k ≤ 3000000000 := by
  induction k with
  | zero => simpa [endTo] using he
  | succ k ih =>
    simp only [endTo]
    split
    · next x hx => have := h _ _ hx; split <;> omega
    · exact ih
end
/-- The best beginning among the first k, and in how many it lies. -/
def bestB (xs : List Mach) : Nat → Int × Int
  | 0 => (0, 0)
  | k + 1 => match xs[k]? with
    | some x => if countTo xs (beginOf x) xs.length > (bestB xs k).2 ∨ (countTo xs (beginOf x) xs.length = (bestB xs k).2 ∧ beginOf x < (bestB xs k).1) then (beginOf x, countTo xs (beginOf x) xs.length) else bestB xs k
    | none => bestB xs k
section
variable {xs : List Mach} {k : Nat} {x : Mach}
theorem bestB_T (hx : xs[k]? = some x) (h : countTo xs (beginOf x) xs.length > (bestB xs k).2 ∨ (countTo xs (beginOf x) xs.length = (bestB xs k).2 ∧ beginOf x < (bestB xs k).1)) :
    bestB xs (k + 1) = (beginOf x, countTo xs (beginOf x) xs.length) := by simp only [bestB, hx]; rw [if_pos h]
theorem bestB_F (hx : xs[k]? = some x) (h : ¬ (countTo xs (beginOf x) xs.length > (bestB xs k).2 ∨ (countTo xs (beginOf x) xs.length = (bestB xs k).2 ∧ beginOf x < (bestB xs k).1))) :
    bestB xs (k + 1) = bestB xs k := by simp only [bestB, hx]; rw [if_neg h]
/-- Where the common part of the best beginning ends. -/
def untilB (xs : List Mach) (k : Nat) : Int := if k = 0 then 0 else endTo xs (bestB xs k).1 3000000000 xs.length
theorem lies_own (h : okMachine x = true) : liesB x (beginOf x) = true := by
  have := mach_lim h
  unfold liesB beginOf endOf
  rw [Bool.and_eq_true, decide_eq_true_eq, decide_eq_true_eq]
  constructor <;> omega
theorem first_best (hx : xs[0]? = some x) (h : okMachine x = true) : countTo xs (beginOf x) xs.length > (bestB xs 0).2 := by
  have := countTo_pos hx (lies_own h) xs.length (lt_of_get hx)
  simp [bestB]; omega
theorem ends_lim (h : okMachines xs = true) : ∀ (k : Nat) x, xs[k]? = some x → -2000000000 ≤ endOf x ∧ endOf x ≤ 2000000000 := fun k x hx => by
  have := mach_lim (machines_at h hx); unfold endOf; omega
theorem begins_lim (h : okMachine x = true) : -2000000000 ≤ beginOf x ∧ beginOf x ≤ 2000000000 ∧ -2000000000 ≤ endOf x ∧ endOf x ≤ 2000000000 := by
  have := mach_lim h; unfold beginOf endOf; omega
theorem bestB_lim (h : okMachines xs = true) (k : Nat) : -2000000000 ≤ (bestB xs k).1 ∧ (bestB xs k).1 ≤ 2000000000 ∧ 0 ≤ (bestB xs k).2 ∧ (bestB xs k).2 ≤ xs.length := by
  induction k with
  | zero => simp [bestB]
  | succ k ih =>
    simp only [bestB]
    split
    · next x hx =>
      have h1 := begins_lim (machines_at h hx)
      have h2 := countTo_lim (xs := xs) (b := beginOf x) xs.length
      split
      · simp only; omega
      · exact ih
    · exact ih
theorem untilB_T (hok : okMachines xs = true) (hx : xs[k]? = some x) (h : countTo xs (beginOf x) xs.length > (bestB xs k).2 ∨ (countTo xs (beginOf x) xs.length = (bestB xs k).2 ∧ beginOf x < (bestB xs k).1)) :
    untilB xs (k + 1) = endTo xs (beginOf x) (endOf x) xs.length := by
  unfold untilB
  rw [if_neg (by omega), bestB_T hx h, endTo_own hx (lies_own (machines_at hok hx)) (lt_of_get hx) (e := 3000000000) (by have := begins_lim (machines_at hok hx); omega)]
theorem untilB_F (hok : okMachines xs = true) (hx : xs[k]? = some x) (h : ¬ (countTo xs (beginOf x) xs.length > (bestB xs k).2 ∨ (countTo xs (beginOf x) xs.length = (bestB xs k).2 ∧ beginOf x < (bestB xs k).1))) :
    untilB xs (k + 1) = untilB xs k := by
  have hk : k ≠ 0 := by
    rintro rfl
    exact h (.inl (first_best hx (machines_at hok hx)))
  unfold untilB
  rw [if_neg (by omega), if_neg hk, bestB_F hx h]
end
def agreedOffset (xs : List Mach) : Int × Int × Int × Int :=
  if askMachines xs = 0 then ((bestB xs xs.length).1, untilB xs xs.length, (bestB xs xs.length).2, 0) else (0, 0, 0, askMachines xs)
end Go.V
namespace Go.V
open Go
theorem agreed_bad {xs : List Mach} (h : ¬ askMachines xs = 0) : PV.tup [.v (.int .i64 0), .v (.int .i64 0), .v (.int .i64 0), .v (.int .i64 (askMachines xs))] =
    .tup [.v (.int .i64 (agreedOffset xs).1), .v (.int .i64 (agreedOffset xs).2.1), .v (.int .i64 (agreedOffset xs).2.2.1), .v (.int .i64 (agreedOffset xs).2.2.2)] := by
  unfold agreedOffset; rw [if_neg h]
theorem agreed_ok {xs : List Mach} (h : askMachines xs = 0) (hl : 0 < xs.length) : PV.tup [.v (.int .i64 (bestB xs xs.length).1), .v (.int .i64 (endTo xs (bestB xs xs.length).1 3000000000 xs.length)), .v (.int .i64 (bestB xs xs.length).2), .v (.int .i64 0)] =
    .tup [.v (.int .i64 (agreedOffset xs).1), .v (.int .i64 (agreedOffset xs).2.1), .v (.int .i64 (agreedOffset xs).2.2.1), .v (.int .i64 (agreedOffset xs).2.2.2)] := by
  unfold agreedOffset; rw [if_pos h]; unfold untilB; rw [if_neg (by omega)]
end Go.V
