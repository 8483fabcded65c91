/- Sorting by insertion, step by step. -/
import Derived.Test.YtnejigdldeipdaaD26
set_option linter.all false
namespace Go.V
open Go
def cmpI (x y : Int) : Int := if x < y then -1 else if y < x then 1 else 0
theorem cmpI_lt {x y : Int} : cmpI x y < 0 ↔ x < y := by unfold cmpI; split <;> (try split) <;> omega
def upTo (n : Nat) : List Int := (List.range n).map (fun k : Nat => (k : Int))
theorem upTo_length (n : Nat) : (upTo n).length = n := by simp [upTo]
theorem upTo_get {n k : Nat} (h : k < n) : (upTo n)[k]? = some (k : Int) := by simp [upTo, h]
theorem upTo_drop {n k : Nat} (h : k < n) : (upTo n).drop k = (k : Int) :: (upTo n).drop (k + 1) := by
  have hk : k < (upTo n).length := by rw [upTo_length]; exact h
  rw [List.drop_eq_getElem_cons hk]
  have := upTo_get h
  rw [List.getElem?_eq_getElem hk] at this
  rw [Option.some.inj this]
theorem upTo_succ (n : Nat) : upTo (n + 1) = upTo n ++ [(n : Int)] := by simp [upTo, List.range_succ]
def midL (o : List Int) (x : Int) (j : Nat) (r : List Int) : List Int := o.take j ++ x :: (o.drop j ++ r)
section
variable {o r : List Int} {x y : Int} {j : Nat}
theorem midL_len (h : j ≤ o.length) : (midL o x j r).length = o.length + 1 + r.length := by simp [midL]; omega
theorem midL_at (h : j ≤ o.length) : (midL o x j r)[j]? = some x := by
  unfold midL
  rw [List.getElem?_append_right (by simp; omega)]
  have : j - (o.take j).length = 0 := by simp; omega
  rw [this]; rfl
theorem midL_pre (h : j + 1 ≤ o.length) (hy : o[j]? = some y) : (midL o x (j + 1) r)[j]? = some y := by
  unfold midL
  rw [List.getElem?_append_left (by simp; omega), List.getElem?_take, if_pos (by omega)]
  exact hy
theorem midL_swap (h : j + 1 ≤ o.length) (hy : o[j]? = some y) : ((midL o x (j + 1) r).set (j + 1) y).set j x = midL o x j r := by
  have ht : o.take (j + 1) = o.take j ++ [y] := take_snoc hy
  have hl : (o.take j).length = j := by simp; omega
  have hd : o.drop j = y :: o.drop (j + 1) := by
    have hk := lt_of_get hy
    rw [List.drop_eq_getElem_cons hk]
    rw [List.getElem?_eq_getElem hk] at hy
    rw [Option.some.inj hy]
  unfold midL
  rw [ht, hd, List.append_assoc]
  rw [List.set_append_right _ _ (by omega), hl]
  rw [show j + 1 - j = 1 by omega]
  simp only [List.cons_append, List.nil_append, List.set_cons_succ, List.set_cons_zero]
  rw [List.set_append_right _ _ (by omega), hl, Nat.sub_self]
  simp
theorem midL_start : midL o x o.length r = o ++ x :: r := by simp [midL]
theorem midL_end {gt : Int → Bool} (h : insPos gt o o.length = j) : midL o x j r = insAt gt o x ++ r := by
  unfold midL insAt; rw [h]; simp
end
theorem insPos_stop {gt : Int → Bool} {o : List Int} {j : Nat} {y : Int} (hy : o[j]? = some y) (h : gt y = false) : insPos gt o (j + 1) = j + 1 := by
  rw [insPos, rowAt_get hy, h]; rfl
theorem insPos_go {gt : Int → Bool} {o : List Int} {j : Nat} {y : Int} (hy : o[j]? = some y) (h : gt y = true) : insPos gt o (j + 1) = insPos gt o j := by
  rw [insPos, rowAt_get hy, h]; rfl
def dataAt (gs : List Group) (k : Nat) : List Int := (ordTo gs k).take gs.length ++ (upTo gs.length).drop k
theorem dataAt_one (gs : List Group) : dataAt gs 1 = upTo gs.length := by
  unfold dataAt
  cases gs with
  | nil => rfl
  | cons g gs =>
    have h := upTo_drop (n := (g :: gs).length) (k := 0) (by simp)
    rw [List.drop_zero] at h
    rw [h]
    simp [ordTo, insAt, insPos]
theorem dataAt_mid {gs : List Group} {k : Nat} (h : k < gs.length) : dataAt gs k = midL (ordTo gs k) (k : Int) k ((upTo gs.length).drop (k + 1)) := by
  have hl := ordTo_length gs k
  have h9 := midL_start (o := ordTo gs k) (x := (k : Int)) (r := (upTo gs.length).drop (k + 1))
  rw [hl] at h9
  rw [h9]
  unfold dataAt
  rw [List.take_of_length_le (by omega), upTo_drop h]
theorem dataAt_next {gs : List Group} {k j : Nat} (h : k < gs.length) (hj : insPos (beP gs k) (ordTo gs k) (ordTo gs k).length = j) : midL (ordTo gs k) (k : Int) j ((upTo gs.length).drop (k + 1)) = dataAt gs (k + 1) := by
  rw [midL_end hj]
  unfold dataAt
  rw [List.take_of_length_le (by rw [ordTo_length]; omega)]
  rfl
theorem dataAt_end {gs : List Group} {k : Nat} (h1 : 1 ≤ k) (h : k = gs.length ∨ (gs.length = 0 ∧ k = 1)) : dataAt gs k = ordTo gs gs.length := by
  rcases h with h | ⟨h, h2⟩
  · subst h; unfold dataAt
    rw [List.take_of_length_le (by rw [ordTo_length]; exact Nat.le_refl _), List.drop_eq_nil_of_le (by rw [upTo_length]; exact Nat.le_refl _), List.append_nil]
  · subst h2
    rw [dataAt_one, h]; rfl
theorem dataAt_len {gs : List Group} {k : Nat} (h1 : 1 ≤ k) (h : k ≤ gs.length ∨ (gs.length = 0 ∧ k = 1)) : (dataAt gs k).length = gs.length := by
  unfold dataAt
  have := ordTo_length gs k
  have := upTo_length gs.length
  simp; omega
theorem insAt_take {gt : Int → Bool} {o : List Int} {x : Int} : ((o.take (insPos gt o o.length)) ++ [x]) ++ o.drop (insPos gt o o.length) = insAt gt o x := rfl
theorem ord_get {gs : List Group} {n j : Nat} {y : Int} (h : (ordTo gs n)[j]? = some y) : ∃ m : Nat, y = (m : Int) ∧ m < n := by
  have := ordTo_mem gs n (List.mem_of_getElem? h)
  exact ⟨y.toNat, by omega, by omega⟩
theorem greedy_len (gs : List Group) (rs : List Int) : (greedyS gs rs).1.length ≤ 12 := by
  unfold greedyS
  split
  · next hv =>
    rw [Bool.and_eq_true] at hv
    have := groups_len hv.1
    have := (greedyTo_len gs rs gs.length).2
    show (greedyTo gs rs gs.length).2.length ≤ 12
    omega
  · simp
end Go.V
