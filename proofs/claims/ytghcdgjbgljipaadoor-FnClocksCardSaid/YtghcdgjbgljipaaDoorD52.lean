/- The law of clocks: the agreed offset lies in as many ranges as told; a machine's text is read back. -/
import Derived.Test.YtghcdgjbgljipaaDoorD47
import Derived.Test.YtghcdgjbgljipaaDoorD44
import Derived.Test.YtghcdgjbgljipaaDoorD11
import Derived.Test.YtghcdgjbgljipaaDoorD37
set_option linter.all false
namespace Go.V
open Go
theorem digits_ne (u : Nat) : Lib.decDigits u ≠ [] := fun e => by
  have hl := Lib.decDigits_length u
  rw [e] at hl
  have := Lib.nDigits_pos u
  simp at hl; omega
theorem digits_len {u : Nat} (h : u < 1000000000000000000) : (Lib.decDigits u).length ≤ 18 := by
  by_cases h0 : u = 0
  · subst h0; rw [dec_small (by omega)]; simp
  · rw [dec_rev u u (Nat.le_refl _) h0, List.length_reverse]
    exact revN_len 18 u (by omega)
theorem digits_head (u : Nat) : (Lib.decDigits u).head? ≠ some 45 := by
  intro e
  have h := dec_write u u (Nat.le_refl _)
  cases hd : Lib.decDigits u with
  | nil => exact digits_ne u hd
  | cons a r =>
    rw [hd] at e h
    simp only [List.head?_cons, Option.some.injEq] at e
    subst e
    simp only [Lib.decFrom] at h
    rw [show Lib.digitVal 45 = none from rfl] at h
    cases h
theorem readDec_itoa {n : Int} (h : n.natAbs < 1000000000000000000) : readDec (Lib.itoa n) = some n := by
  have key : ∀ s u, Lib.itoa n = s → mag s = Lib.decDigits u → u < 1000000000000000000 → withSign s u = n → readDec s = some n := by
    intro s u hs hm hu hw
    have hl := digits_len hu
    have h1 : 1 ≤ (mag s).length := by rw [hm]; exact List.length_pos_iff.2 (digits_ne u)
    unfold readDec
    rw [if_pos ⟨h1, by rw [hm]; exact hl⟩, hm, dec_write u u (Nat.le_refl _)]
    simp only [hw, hs, if_true]
  by_cases hn : n < 0
  · have e : Lib.itoa n = 45 :: Lib.decDigits n.natAbs := by unfold Lib.itoa; rw [if_pos hn]
    refine key _ n.natAbs rfl ?_ (by omega) ?_
    · rw [e]; unfold mag; rw [if_pos (by simp)]; rfl
    · rw [e]; unfold withSign; rw [if_pos (by simp)]; omega
  · have e : Lib.itoa n = Lib.decDigits n.toNat := by unfold Lib.itoa; rw [if_neg hn]
    refine key _ n.toNat rfl ?_ (by omega) ?_
    · rw [e]; unfold mag; rw [if_neg (digits_head _)]
    · rw [e]; unfold withSign; rw [if_neg (digits_head _)]; omega
theorem itoa_free {n : Int} (h : n.natAbs < 1000000000000000000) : 32 ∉ Lib.itoa n := fun e => by
  have h1 := readDec_itoa h
  rw [readDec_space digit32 (by decide) e] at h1
  cases h1
def rdM (s : List UInt8) : Option (List UInt8 × Int × Int) := rd3 (fun a n m => okMachine ⟨a, n, m⟩) s
theorem read_back {x : Mach} (h : okMachine x = true) : rd3 (fun a n m => okMachine ⟨a, n, m⟩) (machText x) = some (x.name, x.offset, x.delay) := by
  have hl := mach_lim h
  have hf := (name_free hl.1).1
  have e : machText x = x.name ++ 32 :: (Lib.itoa x.offset ++ 32 :: Lib.itoa x.delay) := by unfold machText; rw [if_pos h]; simp
  have hs : sps 32 (machText x) = [x.name, Lib.itoa x.offset, Lib.itoa x.delay] := by
    rw [e, sps_hit hf, sps_hit (itoa_free (by omega)), sps_none (itoa_free (by omega))]
  rw [rd3_three hs, readDec_itoa (by omega), readDec_itoa (by omega)]
  exact if_pos h
/-! The agreed offset. -/
section
variable {xs : List Mach}
theorem best_ge : ∀ (k : Nat), k ≤ xs.length → ∀ (j : Nat) (x : Mach), j < k → xs[j]? = some x → countTo xs (beginOf x) xs.length ≤ (bestB xs k).2
  | 0, _, j, x, hj, _ => by omega
  | k + 1, hk, j, x, hj, hx => by
    obtain ⟨y, hy⟩ := get_some (xs := xs) (k := k) (by omega)
    have ih := best_ge k (by omega)
    by_cases hc : countTo xs (beginOf y) xs.length > (bestB xs k).2 ∨ (countTo xs (beginOf y) xs.length = (bestB xs k).2 ∧ beginOf y < (bestB xs k).1)
    · rw [bestB_T hy hc]
      show _ ≤ countTo xs (beginOf y) xs.length
      by_cases e : j = k
      · subst e; rw [hx] at hy; obtain rfl := Option.some.inj hy; exact Int.le_refl _
      · have := ih j x (by omega) hx; omega
    · rw [bestB_F hy hc]
      by_cases e : j = k
      · subst e; rw [hx] at hy; obtain rfl := Option.some.inj hy; omega
      · exact ih j x (by omega) hx
theorem best_from (hok : okMachines xs = true) : ∀ (k : Nat), k ≤ xs.length → 0 < k → ∃ (j : Nat) (x : Mach), xs[j]? = some x ∧ bestB xs k = (beginOf x, countTo xs (beginOf x) xs.length)
  | 0, _, h => by omega
  | k + 1, hk, _ => by
    obtain ⟨y, hy⟩ := get_some (xs := xs) (k := k) (by omega)
    by_cases hc : countTo xs (beginOf y) xs.length > (bestB xs k).2 ∨ (countTo xs (beginOf y) xs.length = (bestB xs k).2 ∧ beginOf y < (bestB xs k).1)
    · exact ⟨k, y, hy, bestB_T hy hc⟩
    · have hk0 : 0 < k := by
        rcases Nat.eq_zero_or_pos k with e | e
        · subst e; exact absurd (.inl (first_best hy (machines_at hok hy))) hc
        · exact e
      rw [bestB_F hy hc]
      exact best_from hok k (by omega) hk0
theorem end_ge9 {b e : Int} (he : b ≤ e) : ∀ (k : Nat), b ≤ endTo xs b e k
  | 0 => he
  | k + 1 => by
    have ih := end_ge9 he k
    simp only [endTo]
    split
    · next x hx =>
      split
      · next hl =>
        have : b ≤ endOf x := by unfold liesB at hl; simp only [Bool.and_eq_true, decide_eq_true_eq] at hl; exact hl.2
        omega
      · exact ih
    · exact ih
theorem idx_count (b : Int) : ∀ (k : Nat), k ≤ xs.length → ((idxTo (falseB b) xs k).length : Int) + countTo xs b k = k
  | 0, _ => by simp [idxTo, countTo]
  | k + 1, hk => by
    have ih := idx_count b k (by omega)
    obtain ⟨x, hx⟩ := get_some (xs := xs) (k := k) (by omega)
    cases hl : liesB x b with
    | true =>
      rw [idxTo_F hx (by unfold falseB; rw [hl]; rfl), countTo_T hx hl]; omega
    | false =>
      rw [idxTo_T hx (by unfold falseB; rw [hl]; rfl), countTo_F hx hl, List.length_append]; simp; omega
/-- Numbers that rise, from 0 to below n. -/
def risesB (l : List Int) (n : Int) : Prop := ∀ (k : Nat) x, l[k]? = some x → 0 ≤ x ∧ x < n ∧ ∀ (j : Nat) y, k = j + 1 → l[j]? = some y → y < x
theorem idx_rises {p : Mach → Bool} : ∀ (k : Nat), k ≤ xs.length → risesB (idxTo p xs k) k
  | 0, _ => fun k x h => by simp [idxTo] at h
  | n + 1, hn => by
    have ih := idx_rises (p := p) n (by omega)
    obtain ⟨x, hx⟩ := get_some (xs := xs) (k := n) (by omega)
    have up : risesB (idxTo p xs n) (n + 1 : Nat) := fun k z hz => by
      obtain ⟨h1, h2, h3⟩ := ih k z hz
      exact ⟨h1, by omega, h3⟩
    cases hp : p x with
    | false => rw [idxTo_F hx hp]; exact up
    | true =>
      rw [idxTo_T hx hp]
      intro k z hz
      by_cases hk : k < (idxTo p xs n).length
      · rw [List.getElem?_append_left hk] at hz
        obtain ⟨h1, h2, h3⟩ := up k z hz
        refine ⟨h1, h2, fun j y hj hy => ?_⟩
        rw [List.getElem?_append_left (by omega)] at hy
        exact h3 j y hj hy
      · have hkl := lt_of_get hz
        simp only [List.length_append, List.length_cons, List.length_nil] at hkl
        have hke : k = (idxTo p xs n).length := by omega
        rw [List.getElem?_append_right (by omega)] at hz
        simp only [hke, Nat.sub_self, List.getElem?_cons_zero, Option.some.injEq] at hz
        subst hz
        refine ⟨by omega, by omega, fun j y hj hy => ?_⟩
        rw [List.getElem?_append_left (by omega)] at hy
        have := (ih j y hy).2.1
        omega
theorem agreed_facts (h : (agreedOffset xs).2.2.2 = 0) :
    okMachines xs = true ∧ (falseClocks xs).2 = 0 ∧ (agreedOffset xs).1 ≤ (agreedOffset xs).2.1 ∧ 1 ≤ (agreedOffset xs).2.2.1 ∧ ((falseClocks xs).1.length : Int) + (agreedOffset xs).2.2.1 = xs.length ∧ risesB (falseClocks xs).1 xs.length ∧
      (∀ x ∈ xs, countTo xs (beginOf x) xs.length ≤ (agreedOffset xs).2.2.1) := by
  have hk : askMachines xs = 0 := by
    by_cases hk : askMachines xs = 0
    · exact hk
    · unfold agreedOffset at h; rw [if_neg hk] at h; exact h
  obtain ⟨hok, hne⟩ := ask_ok hk
  have e : agreedOffset xs = ((bestB xs xs.length).1, untilB xs xs.length, (bestB xs xs.length).2, 0) := by unfold agreedOffset; rw [if_pos hk]
  have e2 : falseClocks xs = (idxOn (falseB (bestB xs xs.length).1) xs, 0) := by unfold falseClocks; rw [if_pos hk]
  obtain ⟨j, x, hx, hb⟩ := best_from hok xs.length (Nat.le_refl _) (by omega)
  have hlim := bestB_lim hok xs.length
  have hcnt := countTo_pos hx (lies_own (machines_at hok hx)) xs.length (lt_of_get hx)
  have hic := idx_count (xs := xs) (bestB xs xs.length).1 xs.length (Nat.le_refl _)
  rw [e, e2]
  refine ⟨hok, rfl, ?_, ?_, ?_, idx_rises xs.length (Nat.le_refl _), fun y hy => ?_⟩
  · show (bestB xs xs.length).1 ≤ untilB xs xs.length
    unfold untilB; rw [if_neg hne]
    exact end_ge9 (by omega) _
  · show 1 ≤ (bestB xs xs.length).2
    rw [hb]; exact hcnt
  · show ((idxTo (falseB (bestB xs xs.length).1) xs xs.length).length : Int) + (bestB xs xs.length).2 = _
    rw [hb] at hic ⊢
    exact hic
  · obtain ⟨i, hi⟩ := List.getElem?_of_mem hy
    exact best_ge xs.length (Nat.le_refl _) i y (lt_of_get hi) hi
theorem agreed_code (h : ¬ (agreedOffset xs).2.2.2 = 0) : (falseClocks xs).2 = (agreedOffset xs).2.2.2 ∧ (agreedOffset xs).2.2.1 = 0 := by
  have hk : ¬ askMachines xs = 0 := fun hk => h (by unfold agreedOffset; rw [if_pos hk])
  unfold agreedOffset falseClocks
  rw [if_neg hk, if_neg hk]
  exact ⟨rfl, rfl⟩
end
theorem machine_bad {n : List UInt8} {xs : List Sample} (h : ¬ (machineOf n xs).2 = 0) : (machineOf n xs).1.name = [] := by
  unfold machineOf at h ⊢
  split
  · next h1 =>
    rw [if_pos h1] at h
    split
    · next h2 => rw [if_pos h2] at h; exact absurd rfl h
    · rfl
  · rfl
theorem machine_facts {n : List UInt8} {xs : List Sample} (h : (machineOf n xs).2 = 0) :
    (bestSample xs).2 = 0 ∧ okMachine (machineOf n xs).1 = true ∧ ∃ (k : Nat) (x : Sample), (bestSample xs).1 = (k : Int) ∧ xs[k]? = some x ∧ offsetOf x = ((machineOf n xs).1.offset, (machineOf n xs).1.delay, 0) ∧ 0 ≤ (machineOf n xs).1.delay := by
  by_cases hn : isName n = true
  case neg => unfold machineOf at h; rw [if_neg hn] at h; simp at h
  by_cases hb : (bestSample xs).2 = 0
  case neg => unfold machineOf at h; rw [if_pos hn, if_neg hb] at h; exact absurd h hb
  obtain ⟨k, x, hx, hk, hs⟩ := best_ok hb
  have e : machineOf n xs = (⟨n, (offsetOf x).1, (offsetOf x).2.1⟩, 0) := by unfold machineOf; rw [if_pos hn, if_pos hb, hs]
  have hall : xs.all okSample = true := by
    apply Classical.byContradiction
    intro hno
    unfold bestSample at hb; rw [if_neg hno] at hb; simp at hb
  have hox := all_at hall hx
  have hl := sample_lim hox
  have ho : offsetOf x = ((2 * x.other - x.sent - x.back) / 2, x.back - x.sent, 0) := by unfold offsetOf; rw [if_pos hox]
  rw [e]
  refine ⟨hb, ?_, k, x, hk, hx, ?_, ?_⟩
  · unfold okMachine
    rw [ho]
    simp only [hn, Bool.true_and, Bool.and_eq_true, decide_eq_true_eq]
    omega
  · rw [ho]
  · rw [ho]; show 0 ≤ x.back - x.sent; omega
theorem okMachines_one {m : Mach} (h : okMachine m = true) : okMachines [m] = true := by
  unfold okMachines
  rw [Bool.and_eq_true]
  refine ⟨okB_of (fun k x hx => ?_) (fun k x y hx hy => ?_), by simp⟩
  · cases k with
    | zero => simp at hx; subst hx; exact h
    | succ k => simp at hx
  · simp at hx
end Go.V
