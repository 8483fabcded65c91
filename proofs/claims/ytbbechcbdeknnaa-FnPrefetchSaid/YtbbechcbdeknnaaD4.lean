/- Plain laws of lists: the first that answers, the least, all and any up to a place. -/
import Derived.Test.YtbbechcbdeknnaaD3
set_option linter.all false
namespace Go.V
open Go

theorem floor_range {a b : Int} (hb : 0 < b) (a1 : -9223372036854775808 ≤ a) (h : a.tmod b < 0) : -9223372036854775808 ≤ a.tdiv b - 1 ∧ a.tdiv b - 1 ≤ 9223372036854775807 := by
  have ha : a < 0 := by
    rw [tmodE] at h
    split at h
    · have := Int.emod_nonneg a (by omega : b ≠ 0); omega
    · omega
  have h1 : a / b < 0 := Int.ediv_neg_of_neg_of_pos ha hb
  have h2 : a ≤ a / b := by
    rw [Int.le_ediv_iff_mul_le hb]
    have := Int.mul_le_mul_of_nonpos_left (a := a) (b := b) (c := 1) (by omega) (by omega)
    omega
  rw [floor_low hb h]; omega

section
variable {α : Type} (p : α → Bool) (xs : List α)
def anyTo (k : Nat) : Bool := (xs.take k).any p
def allTo (k : Nat) : Bool := (xs.take k).all p
/-- The place of the first that answers, or -1. -/
def idxOf : Int := match xs.findIdx? p with
  | some i => i
  | none => -1
variable {p xs} {k : Nat} {x : α}
theorem anyTo_zero : anyTo p xs 0 = false := rfl
theorem allTo_zero : allTo p xs 0 = true := rfl
theorem anyTo_succ (h : xs[k]? = some x) : anyTo p xs (k + 1) = (anyTo p xs k || p x) := by unfold anyTo; rw [take_snoc h]; simp
theorem allTo_succ (h : xs[k]? = some x) : allTo p xs (k + 1) = (allTo p xs k && p x) := by unfold allTo; rw [take_snoc h]; simp
theorem anyTo_all : anyTo p xs xs.length = xs.any p := by simp [anyTo]
theorem allTo_all : allTo p xs xs.length = xs.all p := by simp [allTo]
theorem any_hit (hx : xs[k]? = some x) (h : p x = true) : xs.any p = true := List.any_eq_true.2 ⟨x, List.mem_of_getElem? hx, h⟩
theorem all_miss (hx : xs[k]? = some x) (h : p x = false) : xs.all p = false := List.all_eq_false.2 ⟨x, List.mem_of_getElem? hx, by simp [h]⟩
theorem all_at (h : xs.all p = true) (hx : xs[k]? = some x) : p x = true := List.all_eq_true.1 h x (List.mem_of_getElem? hx)
theorem idx_hit (h : anyTo p xs k = false) (hx : xs[k]? = some x) (hp : p x = true) : idxOf p xs = k := by
  have hk := lt_of_get hx
  have : xs.findIdx? p = some k := by
    rw [List.findIdx?_eq_some_iff_getElem]
    refine ⟨hk, ?_, ?_⟩
    · rw [List.getElem?_eq_getElem hk] at hx; obtain rfl := Option.some.inj hx; exact hp
    · intro j hj
      have hm : xs[j]'(by omega) ∈ xs.take k := by rw [List.mem_take_iff_getElem]; exact ⟨j, by omega, rfl⟩
      have := List.any_eq_false.1 h _ hm
      simpa using this
  simp [idxOf, this]
theorem idx_miss (h : anyTo p xs xs.length = false) : idxOf p xs = -1 := by
  rw [anyTo_all] at h
  have : xs.findIdx? p = none := by rw [List.findIdx?_eq_none_iff]; intro x hx; simpa using List.any_eq_false.1 h x hx
  simp [idxOf, this]
theorem idx_any : decide (idxOf p xs ≥ 0) = xs.any p := by
  unfold idxOf
  cases h : xs.findIdx? p with
  | none =>
    rw [List.findIdx?_eq_none_iff] at h
    have : xs.any p = false := by rw [List.any_eq_false]; intro x hx; simp [h x hx]
    simp [this]
  | some i =>
    rw [List.findIdx?_eq_some_iff_getElem] at h
    obtain ⟨h1, h2, _⟩ := h
    have : xs.any p = true := any_hit (List.getElem?_eq_getElem h1) h2
    rw [this]; simp
end

/-- The place of the best one among the first k, the first of equals. -/
def bestTo {α : Type} (lt : α → α → Bool) (xs : List α) : Nat → Nat
  | 0 => 0
  | k + 1 => match xs[k]?, xs[bestTo lt xs k]? with
    | some x, some y => if lt x y = true then k else bestTo lt xs k
    | _, _ => bestTo lt xs k
section
variable {α : Type} {lt : α → α → Bool} {xs : List α} {k : Nat} {x y : α}
theorem bestTo_T (hx : xs[k]? = some x) (hy : xs[bestTo lt xs k]? = some y) (h : lt x y = true) : bestTo lt xs (k + 1) = k := by simp [bestTo, hx, hy, h]
theorem bestTo_F (hx : xs[k]? = some x) (hy : xs[bestTo lt xs k]? = some y) (h : lt x y = false) : bestTo lt xs (k + 1) = bestTo lt xs k := by simp [bestTo, hx, hy, h]
theorem bestTo_lt (k : Nat) : bestTo lt xs k < k ∨ (k = 0 ∧ bestTo lt xs k = 0) := by
  induction k with
  | zero => exact .inr ⟨rfl, rfl⟩
  | succ k ih =>
    left
    simp only [bestTo]
    split
    · split <;> omega
    · omega
theorem bestTo_le {n : Nat} (h : k ≤ n) (hn : 0 < n) : bestTo lt xs k < n := by
  rcases bestTo_lt (lt := lt) (xs := xs) k with h1 | ⟨rfl, h1⟩ <;> omega
theorem bestTo_one (h : ∀ x, lt x x = false) : bestTo lt xs 1 = 0 := by
  simp only [bestTo]
  split
  · next x y h1 h2 => rw [h1] at h2; obtain rfl := Option.some.inj h2; simp [h]
  · rfl
end

/-! What the functions on messages' times answer. -/
/-- A message's times. -/
def sampleB (s o b : Int) : Bool := (decide (0 ≤ b) && decide (b ≤ 1000000000)) && (decide (0 ≤ s) && decide (s ≤ b)) && (decide (0 ≤ o) && decide (o ≤ 1000000000))
def okSample (x : Sample) : Bool := sampleB x.sent x.other x.back
def okSession (x : Session) : Bool := (decide (0 ≤ x.day) && decide (x.day ≤ 100000)) && (decide (-5000 ≤ x.turn) && decide (x.turn ≤ 5000)) && (decide (-5000 ≤ x.lift) && decide (x.lift ≤ 5000)) && (decide (0 ≤ x.error) && decide (x.error ≤ 180000))
def geDay (y x : Session) : Bool := decide (y.day ≥ x.day)
def okSessions (xs : List Session) : Bool := okB okSession geDay xs && (decide (1 ≤ xs.length) && decide (xs.length ≤ 32))
def okMachine (x : Mach) : Bool := isName x.name && (decide (-1000000000 ≤ x.offset) && decide (x.offset ≤ 1000000000)) && (decide (0 ≤ x.delay) && decide (x.delay ≤ 1000000000))
def geMachine (y x : Mach) : Bool := !Op.bytesLess y.name x.name
def okMachines (xs : List Mach) : Bool := okB okMachine geMachine xs && decide (xs.length ≤ 8)
def geNV (y x : NV) : Bool := !Op.bytesLess y.name x.name
def okMedia (x : NV) : Bool := isName x.name && (decide (1 ≤ x.val) && decide (x.val ≤ 100000))
def okMedias (xs : List NV) : Bool := okB okMedia geNV xs && decide (xs.length ≤ 16)
def okSetting (x : NV) : Bool := isName x.name && (decide (0 ≤ x.val) && decide (x.val ≤ 1000))
def okState (xs : List NV) : Bool := okB okSetting geNV xs && decide (xs.length ≤ 24)
theorem sample_lim {x : Sample} (h : okSample x = true) : 0 ≤ x.back ∧ x.back ≤ 1000000000 ∧ 0 ≤ x.sent ∧ x.sent ≤ x.back ∧ 0 ≤ x.other ∧ x.other ≤ 1000000000 := by
  simp only [okSample, sampleB, Bool.and_eq_true, decide_eq_true_eq] at h; omega
def offsetOf (x : Sample) : Int × Int × Int := if okSample x = true then ((2 * x.other - x.sent - x.back) / 2, x.back - x.sent, 0) else (0, 0, 1)
def ltSample (x y : Sample) : Bool := decide (x.back - x.sent < y.back - y.sent)
def bestSample (xs : List Sample) : Int × Int := if xs.all okSample = true then (if decide (1 ≤ xs.length) && decide (xs.length ≤ 24) then (bestTo ltSample xs xs.length, 0) else (0, 2)) else (0, 1)
theorem all_not {α : Type} {p : α → Bool} {xs : List α} : xs.any (fun x => !p x) = !xs.all p := by
  induction xs with
  | nil => rfl
  | cons a l ih => simp only [List.any_cons, List.all_cons, ih, Bool.not_and]

theorem viewL_p {st : St} : ∀ l : List PV, st.viewL (l.map .p) = some l
  | [] => rfl
  | x :: l => by simp [St.viewL, St.view, St.view1, viewL_p l]
end Go.V
namespace Go.V
open Go
section
variable {α : Type} {one : α → Bool} {ge : α → α → Bool} {xs : List α} {k : Nat} {x y : α}
theorem okB_at (h : okB one ge xs = true) (hx : xs[k]? = some x) : one x = true := by
  have := okTo_mono (j := k + 1) (lt_of_get hx) h
  simp only [okTo, hx, Bool.and_eq_true] at this
  exact this.2.1
theorem okB_next (h : okB one ge xs = true) (hx : xs[k]? = some x) (hk : 0 < k) (hy : xs[k - 1]? = some y) : ge y x = false := by
  have := okTo_mono (j := k + 1) (lt_of_get hx) h
  cases k with
  | zero => omega
  | succ j => simp at hy; simp [okTo, hx, hy] at this; exact this.2.2
end
def ownTime (m : Mach) (n : Int) : Int × Int := if okMachine m = true then (if decide (0 ≤ n) && decide (n ≤ 1000000000) then (n + m.offset, 0) else (0, 2)) else (0, 1)
theorem mach_lim {m : Mach} (h : okMachine m = true) : isName m.name = true ∧ -1000000000 ≤ m.offset ∧ m.offset ≤ 1000000000 ∧ 0 ≤ m.delay ∧ m.delay ≤ 1000000000 := by
  simp only [okMachine, Bool.and_eq_true, decide_eq_true_eq] at h; exact ⟨h.1.1, h.1.2.1, h.1.2.2, h.2.1, h.2.2⟩
theorem session_lim {x : Session} (h : okSession x = true) : 0 ≤ x.day ∧ x.day ≤ 100000 ∧ -5000 ≤ x.turn ∧ x.turn ≤ 5000 ∧ -5000 ≤ x.lift ∧ x.lift ≤ 5000 ∧ 0 ≤ x.error ∧ x.error ≤ 180000 := by
  simp only [okSession, Bool.and_eq_true, decide_eq_true_eq] at h; omega
/-- The greatest drift of a day among the first k sessions. -/
def driftOf (y x : Session) : Int := (max (absI (x.turn - y.turn)) (absI (x.lift - y.lift)) + (x.day - y.day) - 1) / (x.day - y.day)
def driftTo (xs : List Session) : Nat → Int
  | 0 => 0
  | k + 1 => if k = 0 then 0 else match xs[k - 1]?, xs[k]? with
    | some y, some x => max (driftTo xs k) (driftOf y x)
    | _, _ => driftTo xs k
theorem driftTo_one (xs : List Session) : driftTo xs 1 = 0 := by simp [driftTo]
theorem driftTo_succ {xs : List Session} {k : Nat} {x y : Session} (hk : 0 < k) (hx : xs[k]? = some x) (hy : xs[k - 1]? = some y) : driftTo xs (k + 1) = max (driftTo xs k) (driftOf y x) := by
  simp only [driftTo, hx, hy]; rw [if_neg (by omega)]
def driftPerDay (xs : List Session) : Int × Int := if okSessions xs = true then (if xs.length = 1 then (0, 6) else (driftTo xs xs.length, 0)) else (0, 1)
end Go.V
