/- Versions that are merged. -/
import Derived.Test.YtdgjlkdcklfieaaDoorD33
import Derived.Test.YtdgjlkdcklfieaaDoorD17
set_option linter.all false
namespace Go.V
open Go
theorem line_mem {xs : List Ver} (hok : okVers xs = true) : ∀ (m : Nat) {n : Int}, n.toNat ≤ m → ∀ {i : Int}, i ∈ line xs n → 1 ≤ i ∧ i ≤ n := by
  intro m
  induction m with
  | zero => intro n h i hi; rw [line_zero (by omega)] at hi; cases hi
  | succ m ih =>
    intro n h i hi
    by_cases hn : 0 < n
    · rw [line_pos hok hn] at hi
      have hp := par_lim hok hn
      rcases List.mem_cons.1 hi with e | e
      · omega
      · have := ih (n := par xs n) (by omega) e; omega
    · rw [line_zero hn] at hi; cases hi
theorem line_in {xs : List Ver} (hok : okVers xs = true) {n i : Int} (h : i ∈ line xs n) : 1 ≤ i ∧ i ≤ n := line_mem hok _ (Nat.le_refl _) h
theorem line_falls {xs : List Ver} (hok : okVers xs = true) : ∀ (m : Nat) {n : Int}, n.toNat ≤ m → (line xs n).Pairwise (fun i j => j < i) := by
  intro m
  induction m with
  | zero => intro n h; rw [line_zero (by omega)]; exact .nil
  | succ m ih =>
    intro n h
    by_cases hn : 0 < n
    · rw [line_pos hok hn]
      have hp := par_lim hok hn
      exact .cons (fun i hi => by have := line_in hok hi; omega) (ih (n := par xs n) (by omega))
    · rw [line_zero hn]; exact .nil
theorem find_max {p : Int → Bool} : ∀ {l : List Int}, l.Pairwise (fun i j => j < i) → ∀ {m : Int}, m ∈ l → p m = true → ∃ x, l.find? p = some x ∧ m ≤ x
  | [], _, _, h, _ => by cases h
  | y :: l, hl, m, h, hp => by
    rw [List.pairwise_cons] at hl
    by_cases hy : p y = true
    · refine ⟨y, by simp [hy], ?_⟩
      rcases List.mem_cons.1 h with e | e
      · omega
      · have := hl.1 m e; omega
    · rcases List.mem_cons.1 h with e | e
      · subst e; exact absurd hp hy
      · obtain ⟨x, h1, h2⟩ := find_max hl.2 e hp
        exact ⟨x, by simp [hy, h1], h2⟩
theorem common_cases {xs : List Ver} (a b : Int) : commonA xs a b = 0 ∨ (commonA xs a b ∈ line xs a ∧ commonA xs a b ∈ line xs b) := by
  unfold commonA
  cases h : (line xs a).find? fun n => decide (n ∈ line xs b) with
  | none => exact .inl rfl
  | some x =>
    have h1 := List.mem_of_find?_eq_some h
    have h2 := List.find?_some h
    exact .inr ⟨h1, by simpa using h2⟩
theorem common_max {xs : List Ver} (hok : okVers xs = true) {a b m : Int} (h1 : m ∈ line xs a) (h2 : m ∈ line xs b) : m ≤ commonA xs a b := by
  obtain ⟨x, h3, h4⟩ := find_max (p := fun n => decide (n ∈ line xs b)) (line_falls hok _ (Nat.le_refl _)) h1 (by simpa using h2)
  unfold commonA; rw [h3]; exact h4
theorem common_lim {xs : List Ver} (hok : okVers xs = true) {a b : Int} (ha : 1 ≤ a) (hb : 1 ≤ b) : 0 ≤ commonA xs a b ∧ commonA xs a b ≤ a ∧ commonA xs a b ≤ b := by
  rcases common_cases (xs := xs) a b with h | ⟨h1, h2⟩
  · omega
  · have := line_in hok h1; have := line_in hok h2; omega
theorem common_symm {xs : List Ver} (hok : okVers xs = true) {a b : Int} (ha : 1 ≤ a) (hb : 1 ≤ b) : commonA xs a b = commonA xs b a := by
  have l1 := common_lim hok ha hb
  have l2 := common_lim hok hb ha
  rcases common_cases (xs := xs) a b with h | ⟨h1, h2⟩ <;> rcases common_cases (xs := xs) b a with h3 | ⟨h3, h4⟩
  · omega
  · have := common_max hok h4 h3; omega
  · have := common_max hok h2 h1; omega
  · have e1 := common_max hok h4 h3; have e2 := common_max hok h2 h1; omega
def stT (xs : List Ver) (n : Int) : List NV := if n = 0 then [] else match xs[(n - 1).toNat]? with
  | some x => x.state
  | none => []
theorem stT_zero {xs : List Ver} {n : Int} (h : n = 0) : stT xs n = [] := if_pos h
theorem stT_get {xs : List Ver} {n : Int} {x : Ver} (h : ¬ n = 0) (hx : xs[(n - 1).toNat]? = some x) : stT xs n = x.state := by unfold stT; rw [if_neg h, hx]
theorem okState_nil : okState [] = true := by decide
theorem stT_ok {xs : List Ver} (h : okVers xs = true) (n : Int) : okState (stT xs n) = true := by
  unfold stT
  split
  · exact okState_nil
  · split
    · next x hx => exact (ver_lim (ver_at h hx)).2.2.2.2
    · exact okState_nil
theorem stT_names {xs : List Ver} (h : okVers xs = true) (n : Int) : ∀ s ∈ stT xs n, s.name.length ≤ 1048576 := fun s hs => isName_len (set_lim (stT_ok h n) hs).1
def merge2V (xs : List Ver) (a b : Int) : List NV × Int := merge2 (stT xs (commonA xs a b)) (stT xs a) (stT xs b)
def mergeVersions (xs : List Ver) (a b : Int) (memo : List UInt8) : List Ver × Int :=
  if okVers xs && okMemo memo then (if inVers xs a && inVers xs b then (if (merge2V xs a b).2 ≠ 0 then ([], (merge2V xs a b).2) else addV xs a memo (merge2V xs a b).1) else ([], 3)) else ([], 1)
theorem merge2_len (base a b : List NV) : (merge2 base a b).1.length ≤ 24 := by
  unfold merge2
  split
  · simp
  · split
    · simp
    · simp only; omega
theorem merge2_names {base a b : List NV} (hb : ∀ s ∈ base, s.name.length ≤ 1048576) (ha : ∀ s ∈ a, s.name.length ≤ 1048576) (hb2 : ∀ s ∈ b, s.name.length ≤ 1048576) : ∀ s ∈ (merge2 base a b).1, s.name.length ≤ 1048576 := by
  have key : ∀ s ∈ mergeL base a b, s.name.length ≤ 1048576 := fun s hs => by
    unfold mergeL at hs
    obtain ⟨n, hn, rfl⟩ := List.mem_map.1 hs
    have h1 := (List.mem_filter.1 hn).1
    rw [names3_mem] at h1
    simp only [namesOf, List.mem_map] at h1
    rcases h1 with ⟨x, hx, e⟩ | ⟨x, hx, e⟩ | ⟨x, hx, e⟩
    · simpa [← e] using hb x hx
    · simpa [← e] using ha x hx
    · simpa [← e] using hb2 x hx
  unfold merge2
  split
  · simp
  · split
    · simp
    · exact key
theorem mergeV_good {xs : List Ver} {a b : Int} {memo : List UInt8} (hg : VersGood xs) (hm : memo.length ≤ 1048576) : VersGood (mergeVersions xs a b memo).1 := by
  have nil : VersGood [] := ⟨by simp, by simp⟩
  unfold mergeVersions
  split
  · next h =>
    simp only [Bool.and_eq_true] at h
    have hl := vers_len h.1
    split
    · split
      · exact nil
      · exact add_good hg (by omega) hm (by have := merge2_len (stT xs (commonA xs a b)) (stT xs a) (stT xs b); unfold merge2V; omega) (merge2_names (stT_names h.1 _) (stT_names h.1 _) (stT_names h.1 _))
    · exact nil
  · exact nil
end Go.V
