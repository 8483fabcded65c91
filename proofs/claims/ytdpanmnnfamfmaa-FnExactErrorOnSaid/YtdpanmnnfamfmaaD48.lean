/- The error that is expected on a day; days on which a calibration is due. -/
import Derived.Test.YtdpanmnnfamfmaaD6
set_option linter.all false
namespace Go.V
open Go Go.RowKit
/-- Where the last session up to a day stands, among the first k; -1. -/
def onTo (xs : List Session) (d : Int) : Nat → Int
  | 0 => -1
  | k + 1 => match xs[k]? with
    | some x => if x.day ≤ d then (k : Int) else onTo xs d k
    | none => onTo xs d k
theorem onTo_T {xs : List Session} {d : Int} {k : Nat} {x : Session} (hx : xs[k]? = some x) (h : x.day ≤ d) : onTo xs d (k + 1) = k := by simp [onTo, hx, h]
theorem onTo_F {xs : List Session} {d : Int} {k : Nat} {x : Session} (hx : xs[k]? = some x) (h : ¬ x.day ≤ d) : onTo xs d (k + 1) = onTo xs d k := by simp only [onTo, hx, if_neg h]
theorem onTo_lim (xs : List Session) (d : Int) : ∀ (k : Nat), -1 ≤ onTo xs d k ∧ onTo xs d k < k
  | 0 => by simp [onTo]
  | k + 1 => by
    have := onTo_lim xs d k
    simp only [onTo]
    split
    · split <;> omega
    · omega
theorem onTo_day (xs : List Session) (d : Int) : ∀ (k : Nat), 0 ≤ onTo xs d k → ∃ x, xs[(onTo xs d k).toNat]? = some x ∧ x.day ≤ d
  | 0, h => by simp [onTo] at h
  | k + 1, h => by
    cases hx : xs[k]? with
    | none =>
      have e : onTo xs d (k + 1) = onTo xs d k := by simp only [onTo, hx]
      rw [e] at h ⊢; exact onTo_day xs d k h
    | some x =>
      by_cases hd : x.day ≤ d
      · rw [onTo_T hx hd]; exact ⟨x, by simpa using hx, hd⟩
      · rw [onTo_F hx hd] at h ⊢; exact onTo_day xs d k h
def lastOf (xs : List Session) (d : Int) : Option Session := if onTo xs d xs.length < 0 then none else xs[(onTo xs d xs.length).toNat]?
theorem lastOf_eq {xs : List Session} {d : Int} {j : Nat} {x : Session} (hx : xs[j]? = some x) (hd : x.day ≤ d) (h : ∀ (i : Nat) y, j < i → xs[i]? = some y → d < y.day) : lastOf xs d = some x := by
  have key : ∀ n, j + n < xs.length → onTo xs d (j + n + 1) = j := by
    intro n
    induction n with
    | zero => intro _; exact onTo_T hx hd
    | succ n ih =>
      intro hl
      obtain ⟨y, hy⟩ := get_some (xs := xs) (k := j + (n + 1)) hl
      rw [onTo_F hy (by have := h _ y (by omega) hy; omega)]
      exact ih (by omega)
  have hj := lt_of_get hx
  have e : onTo xs d xs.length = j := by
    have := key (xs.length - 1 - j) (by omega)
    rwa [show j + (xs.length - 1 - j) + 1 = xs.length by omega] at this
  unfold lastOf
  rw [e, if_neg (by omega)]; simpa using hx
theorem lastOf_none {xs : List Session} {d : Int} (h : ∀ (i : Nat) y, xs[i]? = some y → d < y.day) : lastOf xs d = none := by
  have key : ∀ n, onTo xs d n = -1 := by
    intro n
    induction n with
    | zero => rfl
    | succ n ih =>
      cases hx : xs[n]? with
      | none => simp only [onTo, hx]; exact ih
      | some x => rw [onTo_F hx (by have := h _ x hx; omega)]; exact ih
  unfold lastOf; rw [key, if_pos (by omega)]
theorem drift_le {xs : List Session} (h : okSessions xs = true) : ∀ (k : Nat), k ≤ xs.length → driftTo xs k ≤ 10000
  | 0, _ => by simp [driftTo]
  | k + 1, hk => by
    have ih := drift_le h k (by omega)
    by_cases h0 : k = 0
    · subst h0; rw [driftTo_one]; omega
    · obtain ⟨x, hx⟩ := get_some (xs := xs) (k := k) (by omega)
      obtain ⟨y, hy⟩ := get_some (xs := xs) (k := k - 1) (by omega)
      rw [driftTo_succ (by omega) hx hy]
      have hoks : okB okSession geDay xs = true := by unfold okSessions at h; grind
      have hl3 := session_lim (okB_at hoks hx)
      have hl4 := session_lim (okB_at hoks hy)
      have hl5 : y.day < x.day := by have h := okB_next hoks hx (by omega) hy; simpa [geDay] using h
      have : driftOf y x ≤ 10000 := by
        unfold driftOf
        have hm : max (absI (x.turn - y.turn)) (absI (x.lift - y.lift)) ≤ 10000 := by unfold absI; split <;> split <;> omega
        generalize max (absI (x.turn - y.turn)) (absI (x.lift - y.lift)) = m at *
        have hd : 1 ≤ x.day - y.day := by omega
        generalize x.day - y.day = q at *
        refine Int.le_of_lt_add_one (Int.ediv_lt_of_lt_mul (by omega) ?_)
        have : 10000 * 1 ≤ 10000 * q := by omega
        omega
      omega
/-- The error that is expected. -/
def errAt (xs : List Session) (d : Int) (x : Session) : Int := x.error + driftTo xs xs.length * (d - x.day)
def errorOn (xs : List Session) (d : Int) : Int × Int :=
  if okSessions xs = true then (if (decide (0 ≤ d) && decide (d ≤ 100000)) = true then (match lastOf xs d with
    | some x => (errAt xs d x, 0)
    | none => (0, 3)) else (0, 2)) else (0, 1)
def onE (xs : List Session) (d : Int) : Int × Bool := match lastOf xs d with
  | some x => (errAt xs d x, true)
  | none => (0, false)
theorem errorOn_T {xs : List Session} {d : Int} (h : okSessions xs = true) (hd : (decide (0 ≤ d) && decide (d ≤ 100000)) = true) (h2 : (onE xs d).2 = true) : errorOn xs d = ((onE xs d).1, 0) := by
  unfold errorOn; unfold onE at h2 ⊢; rw [if_pos h, if_pos hd]; split at h2 <;> simp_all
theorem errorOn_F {xs : List Session} {d : Int} (h : okSessions xs = true) (hd : (decide (0 ≤ d) && decide (d ≤ 100000)) = true) (h2 : (onE xs d).2 = false) : errorOn xs d = (0, 3) := by
  unfold errorOn; unfold onE at h2; rw [if_pos h, if_pos hd]; split at h2 <;> simp_all
theorem prod_lim {a b : Int} (h1 : 0 ≤ a) (h2 : a ≤ 10000) (h3 : 0 ≤ b) (h4 : b ≤ 100000) : 0 ≤ a * b ∧ a * b ≤ 1000000000 := by
  refine ⟨Int.mul_nonneg h1 h3, ?_⟩
  have := Int.mul_le_mul h2 h4 h3 (by omega)
  omega
theorem err_lim {xs : List Session} {d : Int} {x : Session} (h : okSessions xs = true) (hx : x ∈ xs) (hd : d ≤ 100000) (hxd : x.day ≤ d) : 0 ≤ driftTo xs xs.length * (d - x.day) ∧ driftTo xs xs.length * (d - x.day) ≤ 1000000000 ∧ 0 ≤ x.error ∧ x.error ≤ 180000 ∧ 0 ≤ x.day := by
  obtain ⟨k, hk⟩ := List.getElem?_of_mem hx
  have hl := session_lim (sessions_at h hk)
  have hp := prod_lim (driftTo_nonneg xs xs.length) (drift_le h xs.length (Nat.le_refl _)) (show 0 ≤ d - x.day by omega) (by omega)
  omega
theorem lastOf_mem {xs : List Session} {d : Int} {x : Session} (h : lastOf xs d = some x) : x ∈ xs ∧ x.day ≤ d := by
  unfold lastOf at h
  split at h
  · cases h
  · next h0 =>
    obtain ⟨y, hy, hd⟩ := onTo_day xs d xs.length (by omega)
    rw [hy] at h; obtain rfl := Option.some.inj h
    exact ⟨List.mem_of_getElem? hy, hd⟩
theorem err_wrap {xs : List Session} {d : Int} {x : Session} (h : okSessions xs = true) (hx : x ∈ xs) (h0 : 0 ≤ d) (hd : d ≤ 100000) (hxd : x.day ≤ d) :
    IntKind.i64.wrap (x.error + IntKind.i64.wrap (driftTo xs xs.length * IntKind.i64.wrap (d - x.day))) = errAt xs d x := by
  have hl := err_lim h hx hd hxd
  rw [wrap_id (x := d - x.day) (by omega) (by omega), wrap_id (x := driftTo xs xs.length * (d - x.day)) (by omega) (by omega), wrap_id (by omega) (by omega)]
  rfl
theorem lastOf_last {xs : List Session} {d : Int} (h : okSessions xs = true) (hd : (lastS xs).day ≤ d) : lastOf xs d = some (lastS xs) := by
  have hl := sessions_len h
  obtain ⟨x, hx⟩ := get_some (xs := xs) (k := xs.length - 1) (by omega)
  rw [lastS_eq hx] at hd ⊢
  exact lastOf_eq hx hd (fun i y hi hy => by have := lt_of_get hy; omega)
theorem errorOn_at {xs : List Session} {d : Int} (h : okSessions xs = true) (h0 : (lastS xs).day ≤ d) (h1 : 0 ≤ d) (h2 : d ≤ 100000) : errorOn xs d = (errAt xs d (lastS xs), 0) := by
  unfold errorOn; rw [if_pos h, if_pos (by simp [h1, h2]), lastOf_last h h0]
/-- The first day on which it is too great. -/
theorem due_facts {xs : List Session} {l : Int} (h : (dueDay xs l).2 = 0) :
    okSessions xs = true ∧ xs.length ≠ 0 ∧ (lastS xs).day ≤ (dueDay xs l).1 ∧ 0 ≤ (lastS xs).day ∧ (dueDay xs l).1 ≤ 100000 ∧ (errorOn xs (dueDay xs l).1).2 = 0 ∧ l < (errorOn xs (dueDay xs l).1).1 ∧
      ((lastS xs).day < (dueDay xs l).1 → (errorOn xs ((dueDay xs l).1 - 1)).2 = 0 ∧ (errorOn xs ((dueDay xs l).1 - 1)).1 ≤ l) := by
  by_cases hok : okSessions xs = true
  case neg => unfold dueDay at h; rw [if_neg hok] at h; simp at h
  by_cases hb : (decide (0 ≤ l) && decide (l ≤ 180000)) = true
  case neg => unfold dueDay at h; rw [if_pos hok, if_neg hb] at h; simp at h
  have hln := sessions_len hok
  obtain ⟨x, hx⟩ := get_some (xs := xs) (k := xs.length - 1) (by omega)
  have hlx := session_lim (sessions_at hok hx)
  have ex := lastS_eq hx
  by_cases he : (lastS xs).error > l
  · have e : dueDay xs l = ((lastS xs).day, 0) := by unfold dueDay; rw [if_pos hok, if_pos hb, if_pos he]
    rw [e]
    rw [ex] at he ⊢
    have e2 := errorOn_at (d := x.day) hok (by rw [ex]; omega) (by omega) (by omega)
    rw [ex] at e2
    refine ⟨hok, by omega, Int.le_refl _, by omega, by show x.day ≤ _; omega, by rw [e2], ?_, fun h9 => absurd h9 (by show ¬ x.day < x.day; omega)⟩
    rw [e2]; show l < errAt xs x.day x
    unfold errAt; rw [Int.sub_self, Int.mul_zero]; omega
  by_cases hz : driftTo xs xs.length = 0
  · unfold dueDay at h; rw [if_pos hok, if_pos hb, if_neg he, if_pos hz] at h; simp at h
  have hdn := driftTo_nonneg xs xs.length
  rw [ex] at he
  by_cases hg : (lastS xs).day + (l - (lastS xs).error).tdiv (driftTo xs xs.length) + 1 > 100000
  · unfold dueDay at h; rw [if_pos hok, if_pos hb, if_neg (by rw [ex]; exact he), if_neg hz, if_pos hg] at h; simp at h
  have e : dueDay xs l = ((lastS xs).day + (l - (lastS xs).error).tdiv (driftTo xs xs.length) + 1, 0) := by
    unfold dueDay; rw [if_pos hok, if_pos hb, if_neg (by rw [ex]; exact he), if_neg hz, if_neg hg]
  rw [e]
  rw [ex] at hg ⊢
  rw [Int.tdiv_eq_ediv_of_nonneg (by omega)] at hg ⊢
  have q0 : 0 ≤ (l - x.error) / driftTo xs xs.length := Int.ediv_nonneg (by omega) (by omega)
  have q1 : driftTo xs xs.length * ((l - x.error) / driftTo xs xs.length) ≤ l - x.error := Int.mul_ediv_self_le (by omega)
  have q2 : l - x.error < driftTo xs xs.length * ((l - x.error) / driftTo xs xs.length) + driftTo xs xs.length := Int.lt_mul_ediv_self_add (by omega)
  obtain ⟨q, hq⟩ : ∃ q, q = (l - x.error) / driftTo xs xs.length := ⟨_, rfl⟩
  rw [← hq] at q0 q1 q2 hg ⊢
  have e2 := errorOn_at (d := x.day + q + 1) hok (by rw [ex]; omega) (by omega) (by omega)
  have e3 := errorOn_at (d := x.day + q + 1 - 1) hok (by rw [ex]; omega) (by omega) (by omega)
  rw [ex] at e2 e3
  refine ⟨hok, by omega, by show x.day ≤ x.day + q + 1; omega, by omega, by show x.day + q + 1 ≤ _; omega, by rw [e2], ?_, fun _ => ⟨by rw [e3], ?_⟩⟩
  · rw [e2]; show l < errAt xs (x.day + q + 1) x
    unfold errAt; rw [show x.day + q + 1 - x.day = q + 1 by omega, Int.mul_add, Int.mul_one]; omega
  · rw [e3]; show errAt xs (x.day + q + 1 - 1) x ≤ l
    unfold errAt; rw [show x.day + q + 1 - 1 - x.day = q by omega]; omega
theorem errorOn_bad {xs : List Session} {d : Int} (h : ¬ (errorOn xs d).2 = 0) : (errorOn xs d).1 = 0 := by
  unfold errorOn at h ⊢
  split
  · next h1 =>
    rw [if_pos h1] at h
    split
    · next h2 =>
      rw [if_pos h2] at h
      split
      · next x h3 => rw [h3] at h; exact absurd rfl h
      · rfl
    · rfl
  · rfl
theorem errorOn_facts {xs : List Session} {d : Int} (h : (errorOn xs d).2 = 0) :
    0 ≤ (errorOn xs d).1 ∧ (((driftPerDay xs).2 = 0 ∧ 0 ≤ (driftPerDay xs).1) ∨ ((driftPerDay xs).2 = 6 ∧ xs.length = 1)) := by
  by_cases hok : okSessions xs = true
  case neg => unfold errorOn at h; rw [if_neg hok] at h; simp at h
  by_cases hb : (decide (0 ≤ d) && decide (d ≤ 100000)) = true
  case neg => unfold errorOn at h; rw [if_pos hok, if_neg hb] at h; simp at h
  refine ⟨?_, ?_⟩
  · unfold errorOn
    rw [if_pos hok, if_pos hb]
    split
    · next x hx =>
      obtain ⟨h1, h2⟩ := lastOf_mem hx
      simp only [Bool.and_eq_true, decide_eq_true_eq] at hb
      have := err_lim hok h1 hb.2 h2
      show 0 ≤ errAt xs d x
      unfold errAt; omega
    · exact Int.le_refl _
  · unfold driftPerDay
    rw [if_pos hok]
    have := driftTo_nonneg xs xs.length
    split
    · right; exact ⟨rfl, by assumption⟩
    · left; exact ⟨rfl, this⟩
end Go.V
