/- What the program's functions on histories, late and false clocks, odd marks and needs answer. -/
import Derived.Test.YtbbechcbdeknnaaD8
import Derived.Test.YtbbechcbdeknnaaD9
set_option linter.all false
namespace Go.V
open Go

/-- A test of place and element holds for the first k. -/
def allITo {α : Type} (p : Nat → α → Bool) (xs : List α) : Nat → Bool
  | 0 => true
  | k + 1 => allITo p xs k && (match xs[k]? with | some x => p k x | none => true)
def allI {α : Type} (p : Nat → α → Bool) (xs : List α) : Bool := allITo p xs xs.length
section
variable {α : Type} {p : Nat → α → Bool} {xs : List α} {k : Nat} {x : α}
theorem allITo_succ (h : xs[k]? = some x) : allITo p xs (k + 1) = (allITo p xs k && p k x) := by simp [allITo, h]
theorem allITo_mono {j : Nat} (h : j ≤ k) (hk : allITo p xs k = true) : allITo p xs j = true := by
  induction k with
  | zero => obtain rfl : j = 0 := by omega
            rfl
  | succ k ih =>
    simp only [allITo, Bool.and_eq_true] at hk
    rcases Nat.lt_or_ge j (k + 1) with h1 | h1
    · exact ih (by omega) hk.1
    · obtain rfl : j = k + 1 := by omega
      simp only [allITo, Bool.and_eq_true]; exact hk
theorem allI_at (h : allI p xs = true) (hx : xs[k]? = some x) : p k x = true := by
  have hk := lt_of_get hx
  have := allITo_mono (j := k + 1) (by omega) h
  rw [allITo_succ hx] at this
  simp at this; exact this.2
theorem allI_miss (hx : xs[k]? = some x) (h : p k x = false) : allI p xs = false := by
  cases e : allI p xs with
  | false => rfl
  | true => rw [allI_at e hx] at h; cases h
end

/-- The places where a test holds. -/
def idxTo {α : Type} (p : α → Bool) (xs : List α) : Nat → List Int
  | 0 => []
  | k + 1 => match xs[k]? with
    | some x => if p x = true then idxTo p xs k ++ [(k : Int)] else idxTo p xs k
    | none => idxTo p xs k
def idxOn {α : Type} (p : α → Bool) (xs : List α) : List Int := idxTo p xs xs.length
section
variable {α : Type} {p : α → Bool} {xs : List α} {k : Nat} {x : α}
theorem idxTo_T (hx : xs[k]? = some x) (h : p x = true) : idxTo p xs (k + 1) = idxTo p xs k ++ [(k : Int)] := by simp [idxTo, hx, h]
theorem idxTo_F (hx : xs[k]? = some x) (h : p x = false) : idxTo p xs (k + 1) = idxTo p xs k := by simp [idxTo, hx, h]
theorem idxTo_len (k : Nat) : (idxTo p xs k).length ≤ k := by
  induction k with
  | zero => simp [idxTo]
  | succ k ih => simp only [idxTo]; split <;> (try split) <;> (try simp only [List.length_append, List.length_singleton]) <;> omega
theorem idxOn_len : (idxOn p xs).length ≤ xs.length := idxTo_len xs.length
end
theorem map_snoc {α β : Type} (f : α → β) (l : List α) (x : α) : (l ++ [x]).map f = l.map f ++ [f x] := by simp

def memoByte (c : UInt8) : Bool := !(decide (c.toNat < 32) || decide (c.toNat > 126))
def okMemo (s : List UInt8) : Bool := s.all memoByte && decide (s.length ≤ 20)
def okVer (i : Nat) (v : Ver) : Bool := decide (v.number = (i : Int) + 1) && (decide (0 ≤ v.parent) && decide (v.parent ≤ i)) && okMemo v.memo && okState v.state
def okVers (xs : List Ver) : Bool := allI okVer xs && decide (xs.length ≤ 32)

def lateB (l : Int) (m : Mach) : Bool := decide (l < (m.delay + 1) / 2)
def lateMachines (xs : List Mach) (l : Int) : List Int × Int :=
  if askMachines xs = 0 then (if l < 0 then ([], 2) else (idxOn (lateB l) xs, 0)) else ([], askMachines xs)
def falseB (b : Int) (m : Mach) : Bool := !liesB m b
def falseClocks (xs : List Mach) : List Int × Int :=
  if askMachines xs = 0 then (idxOn (falseB (bestB xs xs.length).1) xs, 0) else ([], askMachines xs)
def fitT (xs : List CMark) : Int := divR (sumTo turnOf xs xs.length) xs.length
def fitL (xs : List CMark) : Int := divR (sumTo liftOf xs xs.length) xs.length
def oddB (t l lim : Int) (x : CMark) : Bool := decide (absI (turnOf x - t) > lim) || decide (absI (liftOf x - l) > lim)
def oddMarks (xs : List CMark) (lim : Int) : List Int × Int :=
  if askMarks xs = 0 then (if decide (0 ≤ lim) && decide (lim ≤ 5000) then (idxOn (oddB (fitT xs) (fitL xs) lim) xs, 0) else ([], 2)) else ([], askMarks xs)
theorem late_len (xs : List Mach) (l : Int) : (lateMachines xs l).1.length ≤ xs.length := by
  unfold lateMachines; split <;> (try split) <;> simp <;> exact idxOn_len
theorem false_len (xs : List Mach) : (falseClocks xs).1.length ≤ xs.length := by
  unfold falseClocks; split <;> simp <;> exact idxOn_len
theorem odd_len (xs : List CMark) (l : Int) : (oddMarks xs l).1.length ≤ xs.length := by
  unfold oddMarks; split <;> (try split) <;> simp <;> exact idxOn_len
end Go.V
namespace Go.V
theorem divR_lim {a b M : Int} (hb : 0 < b) (hM : 0 ≤ M) (h1 : -(M * b) ≤ a) (h2 : a ≤ M * b) : -M ≤ divR a b ∧ divR a b ≤ M := by
  have e : ∀ c : Int, 0 ≤ c → c ≤ M * b → 0 ≤ (2 * c + b) / (2 * b) ∧ (2 * c + b) / (2 * b) ≤ M := by
    intro c h0 h3
    refine ⟨Int.ediv_nonneg (by omega) (by omega), ?_⟩
    have : (2 * c + b) / (2 * b) < M + 1 := by
      rw [Int.ediv_lt_iff_lt_mul (by omega)]
      have : (M + 1) * (2 * b) = 2 * (M * b) + 2 * b := by rw [Int.add_mul, Int.mul_left_comm]; omega
      omega
    omega
  unfold divR
  split
  · have := e (-a) (by omega) (by omega)
    rw [show 2 * -a + b = b - 2 * a by omega] at this
    omega
  · have := e a (by omega) (by omega); omega
theorem fitT_lim {xs : List CMark} (h : askMarks xs = 0) : -180000 ≤ fitT xs ∧ fitT xs ≤ 180000 := by
  obtain ⟨_, h1, _⟩ := askMarks_ok h
  have := turn_lim xs xs.length
  exact divR_lim (by omega) (by omega) (by omega) (by omega)
theorem fitL_lim {xs : List CMark} (h : askMarks xs = 0) : -90000 ≤ fitL xs ∧ fitL xs ≤ 90000 := by
  obtain ⟨h0, h1, _⟩ := askMarks_ok h
  have := lift_lim h0 xs.length
  exact divR_lim (by omega) (by omega) (by omega) (by omega)
end Go.V
