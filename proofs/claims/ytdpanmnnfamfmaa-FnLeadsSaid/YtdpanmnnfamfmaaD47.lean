/- Machines as they are drawn; leads; what lies below and above the median. -/
import Derived.Test.YtdpanmnnfamfmaaD46
import Derived.Test.YtdpanmnnfamfmaaD35
import Derived.Test.YtdpanmnnfamfmaaD16
set_option linter.all false
namespace Go.V
open Go Go.RowKit
theorem pickR0 {n p : Int} (h : 0 < n) : 0 ≤ (0 : Int) ∧ (0 : Int) < n ∧ p ≤ p ∧ p ≤ p + 2 := ⟨Int.le_refl _, h, Int.le_refl _, by omega⟩
/-- At most so many machines, with short names. -/
def DM (xs : List Mach) (k : Nat) : Prop := xs.length ≤ k ∧ ∀ x ∈ xs, x.name.length ≤ 40
theorem DM.nil (k : Nat) : DM [] k := ⟨Nat.zero_le _, fun _ h => by cases h⟩
theorem DM.add {xs : List Mach} {k : Nat} {x : Mach} (h : DM xs k) (hx : x.name.length ≤ 40) : DM (xs ++ [x]) (k + 1) := by
  refine ⟨by simp; exact h.1, fun y hy => ?_⟩
  rcases List.mem_append.1 hy with e | e
  · exact h.2 y e
  · rw [List.mem_singleton] at e; subst e; exact hx
theorem DM.up {xs : List Mach} {k m : Nat} (h : DM xs k) (hk : k ≤ m) : DM xs m := ⟨Nat.le_trans h.1 hk, h.2⟩
theorem DM.names {xs : List Mach} {k : Nat} (h : DM xs k) : ∀ x ∈ xs, x.name.length ≤ 1048576 := fun x hx => by have := h.2 x hx; omega
theorem lettM {k : Nat} (h : k < 5) : ([[PV.v (.string ⟨#[97]⟩)], [PV.v (.string ⟨#[98]⟩)], [PV.v (.string ⟨#[99]⟩)], [PV.v (.string ⟨#[100]⟩)], [PV.v (.string ⟨#[101]⟩)]] : List (List PV))[k]? = some [PV.v (str [UInt8.ofNat (97 + k)])] := by
  match k, h with
  | 0, _ => rfl
  | 1, _ => rfl
  | 2, _ => rfl
  | 3, _ => rfl
  | 4, _ => rfl
theorem dec_short {k : Nat} (h : k ≤ 9) : (Lib.itoa (k : Int)).length ≤ 19 := itoa_len (by omega)
theorem late_max {xs : List Mach} (h : okMachines xs = true) : ∀ x ∈ xs, x.delay ≤ maxTo Mach.delay xs xs.length := by
  have : ∀ (k : Nat), ∀ (j : Nat) (x : Mach), j < k → xs[j]? = some x → x.delay ≤ maxTo Mach.delay xs k := by
    intro k
    induction k with
    | zero => intro j x h; omega
    | succ k ih =>
      intro j x hj hx
      by_cases e : j = k
      · subst e; rw [maxTo_succ hx]; omega
      · have := ih j x (by omega) hx
        simp only [maxTo]; split <;> omega
  intro x hx
  obtain ⟨j, hj⟩ := List.getElem?_of_mem hx
  exact this _ j x (lt_of_get hj) hj
theorem max_at (xs : List Mach) : ∀ (k : Nat), maxTo Mach.delay xs k = 0 ∨ ∃ x ∈ xs, maxTo Mach.delay xs k = x.delay
  | 0 => .inl rfl
  | k + 1 => by
    simp only [maxTo]
    split
    · next x hx =>
      rcases Int.le_total (maxTo Mach.delay xs k) x.delay with h | h
      · right; exact ⟨x, List.mem_of_getElem? hx, by omega⟩
      · rcases max_at xs k with e | ⟨y, hy, e⟩
        · left; omega
        · right; exact ⟨y, hy, by omega⟩
    · exact max_at xs k
theorem idxTo_nil {α : Type} {p : α → Bool} {xs : List α} (h : ∀ x ∈ xs, p x = false) : ∀ (k : Nat), idxTo p xs k = []
  | 0 => rfl
  | k + 1 => by
    simp only [idxTo]
    split
    · next x hx => rw [h x (List.mem_of_getElem? hx)]; simpa using idxTo_nil h k
    · exact idxTo_nil h k
theorem idxTo_some {α : Type} {p : α → Bool} {xs : List α} {j : Nat} {x : α} (hx : xs[j]? = some x) (h : p x = true) : ∀ (k : Nat), j < k → idxTo p xs k ≠ []
  | 0, hk => by omega
  | k + 1, hk => by
    simp only [idxTo]
    by_cases e : j = k
    · subst e; rw [hx]; simp [h]
    · have := idxTo_some hx h k (by omega)
      split
      · split
        · simp
        · exact this
      · exact this
/-- A lead is enough for all; one less is not. -/
theorem lead_facts {xs : List Mach} (h : (leadFor xs 0).2 = 0) :
    0 ≤ (leadFor xs 0).1 ∧ (leadFor xs 0).1 ≤ 1000000000 ∧ lateMachines xs (leadFor xs 0).1 = ([], 0) ∧ (0 < (leadFor xs 0).1 → (lateMachines xs ((leadFor xs 0).1 - 1)).2 = 0 ∧ (lateMachines xs ((leadFor xs 0).1 - 1)).1.length ≠ 0) := by
  have hk : askMachines xs = 0 := by
    by_cases hk : askMachines xs = 0
    · exact hk
    · unfold leadFor at h; rw [if_neg hk] at h; exact h
  obtain ⟨hok, hne⟩ := ask_ok hk
  have e : leadFor xs 0 = ((maxTo Mach.delay xs xs.length + 1) / 2, 0) := by unfold leadFor; rw [if_pos hk]; simp
  have hl := delay_lim hok xs.length
  rw [e]
  refine ⟨by show 0 ≤ _ / 2; omega, by show _ / 2 ≤ _; omega, ?_, fun hp => ?_⟩
  · show lateMachines xs ((maxTo Mach.delay xs xs.length + 1) / 2) = _
    unfold lateMachines
    rw [if_pos hk, if_neg (by omega)]
    refine congrArg (fun l => (l, (0 : Int))) (idxTo_nil (fun x hx => ?_) _)
    have := late_max hok x hx
    simp only [lateB, decide_eq_false_iff_not]; omega
  · have hp : 0 < (maxTo Mach.delay xs xs.length + 1) / 2 := hp
    show (lateMachines xs ((maxTo Mach.delay xs xs.length + 1) / 2 - 1)).2 = 0 ∧ (lateMachines xs ((maxTo Mach.delay xs xs.length + 1) / 2 - 1)).1.length ≠ 0
    unfold lateMachines
    rw [if_pos hk, if_neg (by omega)]
    refine ⟨rfl, ?_⟩
    rcases max_at xs xs.length with e9 | ⟨x, hx, e9⟩
    · omega
    · obtain ⟨j, hj⟩ := List.getElem?_of_mem hx
      have : idxTo (lateB ((maxTo Mach.delay xs xs.length + 1) / 2 - 1)) xs xs.length ≠ [] := idxTo_some hj (by simp only [lateB, decide_eq_true_eq]; omega) _ (lt_of_get hj)
      intro e; exact this (List.length_eq_zero_iff.1 e)
/-- How many among the first. -/
def cntB {α : Type} (p : α → Bool) (xs : List α) (k : Nat) : Int := ((xs.take k).countP p : Nat)
theorem cntB_T {α : Type} {p : α → Bool} {xs : List α} {k : Nat} {x : α} (hx : xs[k]? = some x) (h : p x = true) : cntB p xs (k + 1) = cntB p xs k + 1 := by
  unfold cntB; rw [take_snoc hx, List.countP_append]; simp [h]
theorem cntB_F {α : Type} {p : α → Bool} {xs : List α} {k : Nat} {x : α} (hx : xs[k]? = some x) (h : p x = false) : cntB p xs (k + 1) = cntB p xs k := by
  unfold cntB; rw [take_snoc hx, List.countP_append]; simp [h]
theorem cntB_lim {α : Type} (p : α → Bool) (xs : List α) (k : Nat) : 0 ≤ cntB p xs k ∧ cntB p xs k ≤ xs.length := by
  unfold cntB
  have h1 := List.countP_le_length (p := p) (l := xs.take k)
  rw [List.length_take] at h1
  omega
def lowO (v : Int) (x : Mach) : Bool := decide (x.offset < v)
def highO (v : Int) (x : Mach) : Bool := decide (x.offset > v)
theorem sorted_at {vs : List Int} (hs : vs.Pairwise (fun a b => a ≤ b)) {m : Nat} {v : Int} (hv : vs[m]? = some v) :
    vs.countP (fun x => decide (x < v)) ≤ m ∧ vs.countP (fun x => decide (x > v)) + m + 1 ≤ vs.length := by
  have hm := lt_of_get hv
  obtain ⟨hl, e⟩ := List.getElem?_eq_some_iff.1 hv
  have h1 : (vs.drop m).countP (fun x => decide (x < v)) = 0 := by
    rw [List.countP_eq_zero]
    intro a ha
    obtain ⟨i, hi⟩ := List.getElem?_of_mem ha
    rw [List.getElem?_drop] at hi
    obtain ⟨l2, e2⟩ := List.getElem?_eq_some_iff.1 hi
    by_cases e3 : i = 0
    · subst e3; simp only [Nat.add_zero] at e2; rw [e] at e2; subst e2; simp
    · have := List.pairwise_iff_getElem.1 hs m (m + i) hl l2 (by omega)
      rw [e, e2] at this; simp; omega
  have h2 : (vs.take (m + 1)).countP (fun x => decide (x > v)) = 0 := by
    rw [List.countP_eq_zero]
    intro a ha
    obtain ⟨i, hi⟩ := List.getElem?_of_mem ha
    have hil := lt_of_get hi
    rw [List.length_take] at hil
    rw [List.getElem?_take_of_lt (by omega)] at hi
    obtain ⟨l2, e2⟩ := List.getElem?_eq_some_iff.1 hi
    by_cases e3 : i = m
    · subst e3; rw [e] at e2; subst e2; simp
    · have := List.pairwise_iff_getElem.1 hs i m l2 hl (by omega)
      rw [e, e2] at this; simp; omega
  constructor
  · conv => lhs; rw [← List.take_append_drop m vs]
    rw [List.countP_append, h1]
    have := List.countP_le_length (p := fun x => decide (x < v)) (l := vs.take m)
    rw [List.length_take] at this; omega
  · have h3 : vs.countP (fun x => decide (x > v)) = (vs.drop (m + 1)).countP (fun x => decide (x > v)) := by
      conv => lhs; rw [← List.take_append_drop (m + 1) vs]
      rw [List.countP_append, h2, Nat.zero_add]
    have := List.countP_le_length (p := fun x => decide (x > v)) (l := vs.drop (m + 1))
    rw [List.length_drop] at this; omega
/-- The median lies in the middle. -/
theorem med_facts {xs : List Mach} (h : (medianM xs).2 = 0) :
    ∃ (j : Nat) (y : Mach), (medianM xs).1 = (j : Int) ∧ xs[j]? = some y ∧ xs.length ≤ 8 ∧ 2 * cntB (lowO y.offset) xs xs.length ≤ (xs.length : Int) - 1 ∧ 2 * cntB (highO y.offset) xs xs.length ≤ xs.length := by
  have hk : askMachines xs = 0 := by
    by_cases hk : askMachines xs = 0
    · exact hk
    · unfold medianM at h; rw [if_neg hk] at h; exact h
  obtain ⟨hok, hn⟩ := ask_ok hk
  have hne : offs xs ≠ [] := fun e => hn (by rw [← offs_len, e]; rfl)
  have e : (medianM xs).1 = idxOf (fun x => decide (medV (offs xs) = x)) (offs xs) := by unfold medianM; rw [if_pos hk]
  obtain ⟨i, hi⟩ := List.getElem?_of_mem (med_mem hne)
  have hex : ∃ (j : Nat), idxOf (fun x => decide (medV (offs xs) = x)) (offs xs) = (j : Int) ∧ (offs xs)[j]? = some (medV (offs xs)) := by
    have key : ∀ (k : Nat), k ≤ (offs xs).length → anyTo (fun x => decide (medV (offs xs) = x)) (offs xs) k = true → ∃ (j : Nat), idxOf (fun x => decide (medV (offs xs) = x)) (offs xs) = (j : Int) ∧ (offs xs)[j]? = some (medV (offs xs)) := by
      intro k
      induction k with
      | zero => intro _ h; simp [anyTo] at h
      | succ k ih =>
        intro hk9 h9
        by_cases hb : anyTo (fun x => decide (medV (offs xs) = x)) (offs xs) k = true
        · exact ih (by omega) hb
        · rw [Bool.not_eq_true] at hb
          obtain ⟨x, hx⟩ := get_some (xs := offs xs) (k := k) (by omega)
          rw [anyTo_succ hx, hb, Bool.false_or] at h9
          have h9' : medV (offs xs) = x := by simpa using h9
          exact ⟨k, idx_hit hb hx h9, by rw [h9']; exact hx⟩
    refine key _ (Nat.le_refl _) ?_
    rw [anyTo_all]
    exact List.any_eq_true.2 ⟨_, med_mem hne, by simp⟩
  obtain ⟨j, e2, hj⟩ := hex
  obtain ⟨y, hy⟩ := get_some (xs := xs) (k := j) (by rw [← offs_len]; exact lt_of_get hj)
  have hyo := offs_get hy
  rw [hj] at hyo
  have hv : medV (offs xs) = y.offset := Option.some.inj hyo
  have hs := sorted_at (sortZ_sorted (offs xs)) (med_get hne)
  have hp : (sortZ (offs xs)).Perm (offs xs) := List.mergeSort_perm _ _
  rw [hp.countP_eq, hp.countP_eq, sortZ_len, offs_len] at hs
  have c1 : ∀ p : Int → Bool, (offs xs).countP p = xs.countP (fun x => p x.offset) := fun p => by unfold offs; rw [List.countP_map]; rfl
  rw [c1, c1, hv] at hs
  refine ⟨j, y, by rw [e, e2], hy, machines_len hok, ?_, ?_⟩
  · unfold cntB; rw [List.take_length]
    have : xs.countP (lowO y.offset) ≤ (xs.length - 1) / 2 := hs.1
    omega
  · unfold cntB; rw [List.take_length]
    have : xs.countP (highO y.offset) + (xs.length - 1) / 2 + 1 ≤ xs.length := hs.2
    omega
theorem lead_bad {xs : List Mach} (h : ¬ askMachines xs = 0) : medianM xs = (0, askMachines xs) := by unfold medianM; rw [if_neg h]
theorem med_bad {xs : List Mach} (h : ¬ (medianM xs).2 = 0) : (medianM xs).1 = 0 := by
  unfold medianM at h ⊢; split
  · next h1 => rw [if_pos h1] at h; exact absurd rfl h
  · rfl
end Go.V
