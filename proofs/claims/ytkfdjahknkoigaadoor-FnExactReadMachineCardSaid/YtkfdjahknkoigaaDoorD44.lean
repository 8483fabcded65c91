/- Groups, machines that are read: three words. -/
import Derived.Test.YtkfdjahknkoigaaDoorD43
set_option linter.all false
namespace Go.V
open Go
def okGrp (x : Group) : Bool := isName x.name && (decide (1 ≤ x.persons) && decide (x.persons ≤ 40)) && (decide (-1 ≤ x.wish) && decide (x.wish ≤ 9))
theorem grp_lim {x : Group} (h : okGrp x = true) : isName x.name = true ∧ 1 ≤ x.persons ∧ x.persons ≤ 40 ∧ -1 ≤ x.wish ∧ x.wish ≤ 9 := by
  simp only [okGrp, Bool.and_eq_true, decide_eq_true_eq] at h; exact ⟨h.1.1, h.1.2.1, h.1.2.2, h.2.1, h.2.2⟩
def txt3 (a : List UInt8) (n m : Int) : List UInt8 := a ++ [32] ++ Lib.itoa n ++ [32] ++ Lib.itoa m
def grpText (x : Group) : List UInt8 := if okGrp x = true then txt3 x.name x.persons x.wish else []
theorem name_free {a : List UInt8} (h : isName a = true) : 32 ∉ a ∧ a ≠ [] ∧ a.length ≤ 10 := by
  unfold isName at h
  simp only [Bool.and_eq_true, decide_eq_true_eq] at h
  refine ⟨fun hm => ?_, fun e => by rw [e] at h; simp at h, h.1.1.2⟩
  have := List.all_eq_true.1 h.2 32 hm
  revert this; decide
/-- Three words that are read. -/
def rd3 (ok : List UInt8 → Int → Int → Bool) (s : List UInt8) : Option (List UInt8 × Int × Int) := match sps 32 s with
  | [a, b, c] => (readDec b).bind fun n => (readDec c).bind fun m => if ok a n m then some (a, n, m) else none
  | _ => none
def wordsOf (l : List (List UInt8)) : List (List UInt8) := l.filter fun w => decide (w ≠ [])
section
variable {ok : List UInt8 → Int → Int → Bool} {s : List UInt8}
theorem rd3_len (h : (sps 32 s).length ≠ 3) : rd3 ok s = none := by
  unfold rd3
  split
  · next e => rw [e] at h; exact absurd rfl h
  · rfl
theorem rd3_three {a b c : List UInt8} (h : sps 32 s = [a, b, c]) : rd3 ok s = (readDec b).bind fun n => (readDec c).bind fun m => if ok a n m then some (a, n, m) else none := by
  unfold rd3; rw [h]
theorem rd3_some {x : List UInt8 × Int × Int} (h : rd3 ok s = some x) : ∃ b c, sps 32 s = [x.1, b, c] ∧ readDec b = some x.2.1 ∧ readDec c = some x.2.2 ∧ ok x.1 x.2.1 x.2.2 = true := by
  unfold rd3 at h
  split at h
  · next a b c e =>
    cases hb : readDec b with
    | none => rw [hb] at h; cases h
    | some n =>
      cases hc : readDec c with
      | none => rw [hb, hc] at h; cases h
      | some m =>
        rw [hb, hc] at h
        simp only [Option.bind_some] at h
        split at h
        · next ho =>
          obtain rfl := Option.some.inj h
          exact ⟨b, c, e, hb, hc, ho⟩
        · cases h
  · cases h
theorem read_ne {b : List UInt8} {n : Int} (h : readDec b = some n) : b ≠ [] := fun e => by rw [e, readDec_nil] at h; cases h
theorem words_some (hok : ∀ a n m, ok a n m = true → 32 ∉ a ∧ a ≠ []) {x : List UInt8 × Int × Int} (h : rd3 ok s = some x) : wordsOf (sps 32 s) = sps 32 s := by
  obtain ⟨b, c, h1, h2, h3, h4⟩ := rd3_some h
  rw [h1]
  unfold wordsOf
  have := (hok _ _ _ h4).2
  have hb := read_ne h2
  have hc := read_ne h3
  simp [this, hb, hc]
theorem rdw_len (hok : ∀ a n m, ok a n m = true → 32 ∉ a ∧ a ≠ []) (h : (wordsOf (sps 32 s)).length ≠ 3) : rd3 ok s = none := by
  cases hx : rd3 ok s with
  | none => rfl
  | some x =>
    have hw := words_some hok hx
    obtain ⟨b, c, h1, _⟩ := rd3_some hx
    rw [hw, h1] at h; exact absurd rfl h
theorem rdw_num (hok : ∀ a n m, ok a n m = true → 32 ∉ a ∧ a ≠ []) {a b c : List UInt8} (hw : wordsOf (sps 32 s) = [a, b, c]) (h : readDec b = none ∨ readDec c = none) : rd3 ok s = none := by
  cases hx : rd3 ok s with
  | none => rfl
  | some x =>
    have hw2 := words_some hok hx
    obtain ⟨b', c', h1, h2, h3, _⟩ := rd3_some hx
    rw [hw2, h1] at hw
    simp only [List.cons.injEq, and_true] at hw
    obtain ⟨rfl, rfl, rfl⟩ := hw
    rw [h2, h3] at h
    rcases h with h | h <;> cases h
theorem rdw_not (hok : ∀ a n m, ok a n m = true → 32 ∉ a ∧ a ≠ []) {a b c : List UInt8} {n m : Int} (hw : wordsOf (sps 32 s) = [a, b, c]) (hb : readDec b = some n) (hc : readDec c = some m) (h : ¬ (ok a n m = true ∧ txt3 a n m = s)) : rd3 ok s = none := by
  cases hx : rd3 ok s with
  | none => rfl
  | some x =>
    exfalso
    have hw2 := words_some hok hx
    obtain ⟨b', c', h1, h2, h3, h4⟩ := rd3_some hx
    obtain ⟨x1, x2, x3⟩ := x
    simp only at h1 h2 h3 h4
    rw [hw2, h1] at hw
    simp only [List.cons.injEq, and_true] at hw
    obtain ⟨rfl, rfl, rfl⟩ := hw
    rw [h2] at hb; rw [h3] at hc
    obtain rfl := Option.some.inj hb
    obtain rfl := Option.some.inj hc
    refine h ⟨h4, ?_⟩
    unfold txt3
    rw [(read_lim h2).2, (read_lim h3).2]
    have := join_sps 32 _ s (Nat.le_refl _)
    rw [h1] at this
    simp only [joinB] at this
    rw [← this]; simp
theorem rdw_yes (hok : ∀ a n m, ok a n m = true → 32 ∉ a ∧ a ≠ []) {a b c : List UInt8} {n m : Int} (hw : wordsOf (sps 32 s) = [a, b, c]) (hb : readDec b = some n) (hc : readDec c = some m) (h : ok a n m = true) (ht : txt3 a n m = s) : rd3 ok s = some (a, n, m) := by
  have hf : ∀ w ∈ [a, b, c], 32 ∉ w := fun w hwm => by
    rw [← hw] at hwm
    exact (sps_free 32 _ s (Nat.le_refl _) w (List.mem_filter.1 hwm).1).1
  have hs : sps 32 s = [a, b, c] := by
    rw [← ht]
    unfold txt3
    rw [(read_lim hb).2, (read_lim hc).2]
    rw [show a ++ [32] ++ b ++ [32] ++ c = a ++ 32 :: (b ++ 32 :: c) by simp, sps_hit (hf a (by simp)), sps_hit (hf b (by simp)), sps_none (hf c (by simp))]
  rw [rd3_three hs, hb, hc]
  exact if_pos h
end
theorem grp_ok (a : List UInt8) (n m : Int) (h : okGrp ⟨a, n, m⟩ = true) : 32 ∉ a ∧ a ≠ [] := by
  have := name_free (grp_lim h).1; exact ⟨this.1, this.2.1⟩
theorem mach_ok (a : List UInt8) (n m : Int) (h : okMachine ⟨a, n, m⟩ = true) : 32 ∉ a ∧ a ≠ [] := by
  have := name_free (mach_lim h).1; exact ⟨this.1, this.2.1⟩
/-- The numbers of words, all of them. -/
def numOf (w : List UInt8) : Int := (readDec w).getD 0
def allRead (ws : List (List UInt8)) : Bool := ws.all fun w => (readDec w).isSome
def numsOk (ws : List (List UInt8)) : List Int := if allRead ws = true then ws.map numOf else []
theorem allRead_two {b c : List UInt8} (h : allRead [b, c] = true) : ∃ n m, readDec b = some n ∧ readDec c = some m := by
  simp only [allRead, List.all_cons, List.all_nil, Bool.and_true, Bool.and_eq_true] at h
  obtain ⟨n, hn⟩ := Option.isSome_iff_exists.1 h.1
  obtain ⟨m, hm⟩ := Option.isSome_iff_exists.1 h.2
  exact ⟨n, m, hn, hm⟩
theorem allRead_two_not {b c : List UInt8} (h : allRead [b, c] = false) : readDec b = none ∨ readDec c = none := by
  simp only [allRead, List.all_cons, List.all_nil, Bool.and_true] at h
  cases hb : readDec b with
  | none => exact .inl rfl
  | some n =>
    cases hc : readDec c with
    | none => exact .inr rfl
    | some m => rw [hb, hc] at h; cases h
theorem allRead_miss {ws : List (List UInt8)} {k : Nat} {w : List UInt8} (hw : ws[k]? = some w) (h : readDec w = none) : allRead ws = false := by
  unfold allRead
  rw [List.all_eq_false]
  exact ⟨w, List.mem_of_getElem? hw, by rw [h]; simp⟩
theorem allRead_all {ws : List (List UInt8)} (h : ∀ w ∈ ws, (readDec w).isSome = true) : allRead ws = true := List.all_eq_true.2 h
theorem wordsTo_T {l : List (List UInt8)} {k : Nat} {w : List UInt8} (h : l[k]? = some w) (hw : w ≠ []) : wordsOf (l.take (k + 1)) = wordsOf (l.take k) ++ [w] := by
  unfold wordsOf; rw [take_snoc h, List.filter_append]; simp [hw]
theorem wordsTo_F {l : List (List UInt8)} {k : Nat} {w : List UInt8} (h : l[k]? = some w) (hw : w = []) : wordsOf (l.take (k + 1)) = wordsOf (l.take k) := by
  unfold wordsOf; rw [take_snoc h, List.filter_append]; simp [hw]
theorem words_len (l : List (List UInt8)) : (wordsOf l).length ≤ l.length := List.length_filter_le _ _
end Go.V
