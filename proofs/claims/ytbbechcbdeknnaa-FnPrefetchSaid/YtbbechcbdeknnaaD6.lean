/- What the program's functions on files, due days and leads answer. -/
import Derived.Test.YtbbechcbdeknnaaD5
set_option linter.all false
namespace Go.V
open Go

/-- The number that stands behind a name; 0 if there is none. -/
def lookup (xs : List NV) (n : List UInt8) : Int := ((xs.find? fun x => decide (x.name = n)).map NV.val).getD 0
theorem lookup_hit {xs : List NV} {n : List UInt8} {k : Nat} {x : NV} (h : anyTo (fun x : NV => decide (x.name = n)) xs k = false) (hx : xs[k]? = some x) (hn : x.name = n) : lookup xs n = x.val := by
  have : xs.find? (fun x => decide (x.name = n)) = some x := by
    rw [List.find?_eq_some_iff_getElem]
    have hk := lt_of_get hx
    refine ⟨by simpa using hn, k, hk, by rw [List.getElem?_eq_getElem hk] at hx; exact Option.some.inj hx, ?_⟩
    intro j hj
    have hm : xs[j]'(by omega) ∈ xs.take k := by rw [List.mem_take_iff_getElem]; exact ⟨j, by omega, rfl⟩
    have := List.any_eq_false.1 h _ hm
    simpa using this
  simp [lookup, this]
theorem lookup_miss {xs : List NV} {n : List UInt8} (h : anyTo (fun x : NV => decide (x.name = n)) xs xs.length = false) : lookup xs n = 0 := by
  rw [anyTo_all] at h
  have : xs.find? (fun x => decide (x.name = n)) = none := by
    rw [List.find?_eq_none]; intro x hx; simpa using List.any_eq_false.1 h x hx
  simp [lookup, this]
theorem lookup_lim {xs : List NV} (h : okMedias xs = true) (n : List UInt8) : 0 ≤ lookup xs n ∧ lookup xs n ≤ 100000 := by
  unfold lookup
  cases hf : xs.find? (fun x => decide (x.name = n)) with
  | none => simp
  | some x =>
    obtain ⟨k, hk⟩ := List.getElem?_of_mem (List.mem_of_find?_eq_some hf)
    have h1 : okB okMedia geNV xs = true := by unfold okMedias at h; grind
    have h2 := okB_at h1 hk
    simp only [okMedia, Bool.and_eq_true, decide_eq_true_eq] at h2
    simp; omega
def loadTime (xs : List NV) (n : List UInt8) (b : Int) : Int × Int :=
  if okMedias xs = true then (if decide (1 ≤ b) && decide (b ≤ 100000) then (if lookup xs n = 0 then (0, 3) else ((1000 * lookup xs n + b - 1) / b, 0)) else (0, 2)) else (0, 1)

theorem tdiv_small {a b : Int} (ha : 0 ≤ a) (hb : 0 < b) : 0 ≤ a.tdiv b ∧ a.tdiv b ≤ a := by
  rw [Int.tdiv_eq_ediv_of_nonneg ha]
  exact ⟨Int.ediv_nonneg ha (by omega), Int.ediv_le_self b ha⟩
theorem driftTo_nonneg (xs : List Session) (k : Nat) : 0 ≤ driftTo xs k := by
  induction k with
  | zero => simp [driftTo]
  | succ k ih =>
    simp only [driftTo]
    split
    · omega
    · split <;> omega
def lastS (xs : List Session) : Session := (xs[xs.length - 1]?).getD default
theorem lastS_eq {xs : List Session} {x : Session} (h : xs[xs.length - 1]? = some x) : lastS xs = x := by simp [lastS, h]
def dueDay (xs : List Session) (l : Int) : Int × Int :=
  if okSessions xs = true then (if decide (0 ≤ l) && decide (l ≤ 180000) then (if (lastS xs).error > l then ((lastS xs).day, 0) else if driftTo xs xs.length = 0 then (0, 3)
    else if (lastS xs).day + (l - (lastS xs).error).tdiv (driftTo xs xs.length) + 1 > 100000 then (0, 3) else ((lastS xs).day + (l - (lastS xs).error).tdiv (driftTo xs xs.length) + 1, 0)) else (0, 2)) else (0, 1)
theorem sessions_len {xs : List Session} (h : okSessions xs = true) : 1 ≤ xs.length ∧ xs.length ≤ 32 := by unfold okSessions at h; grind
theorem sessions_at {xs : List Session} {k : Nat} {x : Session} (h : okSessions xs = true) (hx : xs[k]? = some x) : okSession x = true := by
  have : okB okSession geDay xs = true := by unfold okSessions at h; grind
  exact okB_at this hx

/-- The greatest among the first k, and 0. -/
def maxTo {α : Type} (f : α → Int) (xs : List α) : Nat → Int
  | 0 => 0
  | k + 1 => match xs[k]? with
    | some x => max (maxTo f xs k) (f x)
    | none => maxTo f xs k
theorem maxTo_succ {α : Type} {f : α → Int} {xs : List α} {k : Nat} {x : α} (h : xs[k]? = some x) : maxTo f xs (k + 1) = max (maxTo f xs k) (f x) := by simp [maxTo, h]
theorem maxTo_nonneg {α : Type} (f : α → Int) (xs : List α) (k : Nat) : 0 ≤ maxTo f xs k := by
  induction k with
  | zero => simp [maxTo]
  | succ k ih => simp only [maxTo]; split <;> omega
theorem maxTo_le {α : Type} {f : α → Int} {xs : List α} {b : Int} (hb : 0 ≤ b) (h : ∀ (k : Nat) x, xs[k]? = some x → f x ≤ b) (k : Nat) : maxTo f xs k ≤ b := by
  induction k with
  | zero => simpa [maxTo] using hb
  | succ k ih =>
    simp only [maxTo]
    split
    · next x hx => have := h _ _ hx; omega
    · exact ih
def askMachines (xs : List Mach) : Int := if okMachines xs = true then (if xs.length = 0 then 3 else 0) else 1
theorem ask_ok {xs : List Mach} (h : askMachines xs = 0) : okMachines xs = true ∧ xs.length ≠ 0 := by
  unfold askMachines at h; split at h
  · split at h
    · omega
    · exact ⟨by assumption, by assumption⟩
  · omega
theorem machines_at {xs : List Mach} {k : Nat} {x : Mach} (h : okMachines xs = true) (hx : xs[k]? = some x) : okMachine x = true := by
  have : okB okMachine geMachine xs = true := by unfold okMachines at h; grind
  exact okB_at this hx
theorem machines_len {xs : List Mach} (h : okMachines xs = true) : xs.length ≤ 8 := by unfold okMachines at h; grind
theorem delay_lim {xs : List Mach} (h : okMachines xs = true) (k : Nat) : 0 ≤ maxTo Mach.delay xs k ∧ maxTo Mach.delay xs k ≤ 1000000000 :=
  ⟨maxTo_nonneg _ _ _, maxTo_le (by omega) (fun _ _ hx => (mach_lim (machines_at h hx)).2.2.2.2) _⟩
def leadFor (xs : List Mach) (m : Int) : Int × Int :=
  if askMachines xs = 0 then (if decide (0 ≤ m) && decide (m ≤ 1000000000) then ((maxTo Mach.delay xs xs.length + 1) / 2 + m, 0) else (0, 2)) else (0, askMachines xs)
theorem half_up {a : Int} (h : 0 ≤ a) : (a + 1).tdiv 2 = (a + 1) / 2 := Int.tdiv_eq_ediv_of_nonneg (by omega)
end Go.V
