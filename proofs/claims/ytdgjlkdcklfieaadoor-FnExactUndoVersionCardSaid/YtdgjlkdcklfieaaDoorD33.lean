/- States that are merged: what each name stands for, what is in conflict, what is left. -/
import Derived.Test.YtdgjlkdcklfieaaDoorD32
set_option linter.all false
namespace Go.V
open Go
theorem idx_find (xs : List NV) (n : List UInt8) : (idxOf (nameIs n) xs = -1 ∧ xs.find? (nameIs n) = none) ∨ ∃ (k : Nat) (x : NV), idxOf (nameIs n) xs = (k : Int) ∧ xs[k]? = some x ∧ x.name = n ∧ xs.find? (nameIs n) = some x := by
  unfold idxOf
  cases h : xs.findIdx? (nameIs n) with
  | none =>
    left
    rw [List.findIdx?_eq_none_iff] at h
    exact ⟨rfl, List.find?_eq_none.2 (fun x hx => by simp [h x hx])⟩
  | some i =>
    right
    rw [List.findIdx?_eq_some_iff_getElem] at h
    obtain ⟨h1, h2, h3⟩ := h
    refine ⟨i, xs[i], rfl, List.getElem?_eq_getElem h1, by simpa [nameIs] using h2, ?_⟩
    rw [List.find?_eq_some_iff_getElem]
    exact ⟨h2, i, h1, rfl, fun j hj => by have := h3 j hj; simpa using this⟩
def vIn (xs : List NV) (n : List UInt8) : Int := match xs.find? (nameIs n) with
  | some x => x.val
  | none => -1
def getZ (xs : List NV) (n : List UInt8) : NV := match xs.find? (nameIs n) with
  | some x => x
  | none => ⟨[], 0⟩
theorem vIn_miss {xs : List NV} {n : List UInt8} (h : xs.find? (nameIs n) = none) : vIn xs n = -1 := by simp [vIn, h]
theorem vIn_hit {xs : List NV} {n : List UInt8} {x : NV} (h : xs.find? (nameIs n) = some x) : vIn xs n = x.val := by simp [vIn, h]
theorem getZ_miss {xs : List NV} {n : List UInt8} (h : xs.find? (nameIs n) = none) : getZ xs n = ⟨[], 0⟩ := by simp [getZ, h]
theorem getZ_hit {xs : List NV} {n : List UInt8} {x : NV} (h : xs.find? (nameIs n) = some x) : getZ xs n = x := by simp [getZ, h]
theorem set_lim {xs : List NV} (h : okState xs = true) {x : NV} (hx : x ∈ xs) : isName x.name = true ∧ 0 ≤ x.val ∧ x.val ≤ 1000 := by
  obtain ⟨k, hk⟩ := List.getElem?_of_mem hx
  have := okB_at (state_ok h) hk
  simp only [okSetting, Bool.and_eq_true, decide_eq_true_eq] at this
  exact ⟨this.1, this.2⟩
theorem name_ne {n : List UInt8} (h : isName n = true) : n ≠ [] := fun e => by subst e; simp [isName] at h
theorem get_cases {xs : List NV} (h : okState xs = true) (n : List UInt8) : (vIn xs n = -1 ∧ getZ xs n = ⟨[], 0⟩) ∨ (0 ≤ vIn xs n ∧ getZ xs n = ⟨n, vIn xs n⟩) := by
  rcases idx_find xs n with ⟨_, h2⟩ | ⟨k, x, _, hx, hn, h2⟩
  · exact .inl ⟨vIn_miss h2, getZ_miss h2⟩
  · refine .inr ?_
    rw [vIn_hit h2, getZ_hit h2]
    exact ⟨(set_lim h (List.mem_of_getElem? hx)).2.1, by cases x; simp at hn; rw [hn]⟩
theorem get_eq {xs ys : List NV} (hx : okState xs = true) (hy : okState ys = true) {n : List UInt8} (hn : n ≠ []) : getZ xs n = getZ ys n ↔ vIn xs n = vIn ys n := by
  rcases get_cases hx n with ⟨h1, h2⟩ | ⟨h1, h2⟩ <;> rcases get_cases hy n with ⟨h3, h4⟩ | ⟨h3, h4⟩ <;> rw [h2, h4]
  · rw [h1, h3]; simp
  · rw [h1]; simp [hn.symm]; omega
  · rw [h3]; simp [hn]; omega
  · simp
def confB (base a b : List NV) (n : List UInt8) : Bool := decide (vIn a n ≠ vIn b n) && decide (vIn a n ≠ vIn base n) && decide (vIn b n ≠ vIn base n)
def mergeV (base a b : List NV) (n : List UInt8) : Int := if vIn a n = vIn base n then vIn b n else vIn a n
def conflTo (base a b : List NV) (k : Nat) : Names := ((names3 base a b).take k).filter (confB base a b)
def mergeTo (base a b : List NV) (k : Nat) : List NV := (((names3 base a b).take k).filter (fun n => decide (0 ≤ mergeV base a b n))).map (fun n => ⟨n, mergeV base a b n⟩)
def conflL (base a b : List NV) : Names := (names3 base a b).filter (confB base a b)
def mergeL (base a b : List NV) : List NV := ((names3 base a b).filter (fun n => decide (0 ≤ mergeV base a b n))).map (fun n => ⟨n, mergeV base a b n⟩)
theorem filter_take_succ {α : Type} {p : α → Bool} {l : List α} {k : Nat} {x : α} (h : l[k]? = some x) : (l.take (k + 1)).filter p = (l.take k).filter p ++ if p x then [x] else [] := by
  rw [take_snoc h, List.filter_append]
  congr 1
  by_cases hp : p x <;> simp [hp]
section
variable {base a b : List NV} {k : Nat} {n : List UInt8}
theorem confl_yes (h : (names3 base a b)[k]? = some n) (hc : confB base a b n = true) : (conflTo base a b k).map encS ++ [[.v (str n)]] = (conflTo base a b (k + 1)).map encS := by
  unfold conflTo; rw [filter_take_succ h, hc]; simp [encS]
theorem confl_no (h : (names3 base a b)[k]? = some n) (hc : confB base a b n = false) : conflTo base a b (k + 1) = conflTo base a b k := by
  unfold conflTo; rw [filter_take_succ h, hc]; simp
theorem merge_yes (h : (names3 base a b)[k]? = some n) {v : Int} (hv : mergeV base a b n = v) (hc : 0 ≤ v) : (mergeTo base a b k).map encNV ++ [[.v (str n), .v (.int .i64 v)]] = (mergeTo base a b (k + 1)).map encNV := by
  unfold mergeTo; rw [filter_take_succ h]; simp [hv, hc, encNV]
theorem merge_no (h : (names3 base a b)[k]? = some n) (hc : ¬ 0 ≤ mergeV base a b n) : mergeTo base a b (k + 1) = mergeTo base a b k := by
  unfold mergeTo; rw [filter_take_succ h]; simp [hc]
theorem conflTo_end : conflTo base a b (names3 base a b).length = conflL base a b := by unfold conflTo conflL; rw [List.take_of_length_le (Nat.le_refl _)]
theorem mergeTo_end : mergeTo base a b (names3 base a b).length = mergeL base a b := by unfold mergeTo mergeL; rw [List.take_of_length_le (Nat.le_refl _)]
theorem conflTo_len : (conflTo base a b k).length ≤ k := by
  unfold conflTo; exact Nat.le_trans (List.length_filter_le _ _) (by simp; omega)
theorem mergeTo_len : (mergeTo base a b k).length ≤ k := by
  unfold mergeTo; rw [List.length_map]; exact Nat.le_trans (List.length_filter_le _ _) (by simp; omega)
theorem conflL_len : (conflL base a b).length ≤ base.length + a.length + b.length := Nat.le_trans (List.length_filter_le _ _) (names3_len _ _ _)
theorem mergeL_len : (mergeL base a b).length ≤ base.length + a.length + b.length := by
  unfold mergeL; rw [List.length_map]; exact Nat.le_trans (List.length_filter_le _ _) (names3_len _ _ _)
theorem names3_ne (hb : okState base = true) (ha : okState a = true) (hb2 : okState b = true) (h : n ∈ names3 base a b) : n ≠ [] := by
  rw [names3_mem] at h
  simp only [namesOf, List.mem_map] at h
  rcases h with ⟨x, hx, rfl⟩ | ⟨x, hx, rfl⟩ | ⟨x, hx, rfl⟩
  · exact name_ne (set_lim hb hx).1
  · exact name_ne (set_lim ha hx).1
  · exact name_ne (set_lim hb2 hx).1
theorem isName_len {n : List UInt8} (h : isName n = true) : n.length ≤ 1048576 := by
  unfold isName at h; simp only [Bool.and_eq_true, decide_eq_true_eq] at h; grind
end
def mergeStates (base a b : List NV) : List NV × Int :=
  if okState base && okState a && okState b then (if 0 < (conflL base a b).length then ([], 6) else if 24 < (mergeL base a b).length then ([], 5) else (mergeL base a b, 0)) else ([], 1)
def conflictsOf (base a b : List NV) : Names × Int := if okState base && okState a && okState b then (conflL base a b, 0) else ([], 1)
theorem confB_get {base a b : List NV} (hb : okState base = true) (ha : okState a = true) (hb2 : okState b = true) {n : List UInt8} (hn : n ≠ []) :
    confB base a b n = (decide (getZ base n ≠ getZ a n) && decide (getZ base n ≠ getZ b n) && decide (getZ a n ≠ getZ b n)) := by
  unfold confB
  have h1 := get_eq hb ha hn
  have h2 := get_eq hb hb2 hn
  have h3 := get_eq ha hb2 hn
  by_cases e1 : vIn base n = vIn a n <;> by_cases e2 : vIn base n = vIn b n <;> by_cases e3 : vIn a n = vIn b n <;> simp [h1, h2, h3, e1, e2, e3, eq_comm] <;> omega
/-- Slices of slices. -/
def encL (l : List NV) : List PV := [.sl 2 (l.map encNV)]
theorem flat_succ {xss : List (List NV)} {k : Nat} {x : List NV} (h : xss[k]? = some x) : (((xss.take k).flatten.length : Nat) : Int) + ((x.map encNV).length : Int) = (((xss.take (k + 1)).flatten.length : Nat) : Int) := by
  rw [take_snoc h]; simp
theorem flat_snoc {xss : List (List NV)} {k : Nat} {x : List NV} (h : xss[k]? = some x) : (xss.take k).flatten.map encNV ++ x.map encNV = (xss.take (k + 1)).flatten.map encNV := by
  rw [take_snoc h]; simp
theorem flat_len {xss : List (List NV)} (h : ∀ l ∈ xss, l.length ≤ 1000) (k : Nat) : (xss.take k).flatten.length ≤ 1000 * xss.length := by
  have key : ∀ (ys : List (List NV)), (∀ l ∈ ys, l.length ≤ 1000) → ys.flatten.length ≤ 1000 * ys.length := by
    intro ys
    induction ys with
    | nil => intro _; simp
    | cons y ys ih =>
      intro h
      have h1 := ih (fun l hl => h l (by simp [hl]))
      have h2 := h y (by simp)
      simp only [List.flatten_cons, List.length_append, List.length_cons]; omega
  have h1 := key (xss.take k) (fun l hl => h l (List.mem_of_mem_take hl))
  have h2 : (xss.take k).length ≤ xss.length := by simp; omega
  omega
theorem names_snoc {xs : List NV} {k : Nat} {x : NV} (h : xs[k]? = some x) : (namesOf (xs.take k)).map encS ++ [[.v (str x.name)]] = (namesOf (xs.take (k + 1))).map encS := by
  rw [take_snoc h]; simp [namesOf, encS]
theorem compact_le2 (ss : Names) : (Lib.compact ss).length ≤ ss.length := compact_len ss
def merge2 (base a b : List NV) : List NV × Int := if 0 < (conflL base a b).length then ([], 6) else if 24 < (mergeL base a b).length then ([], 5) else (mergeL base a b, 0)
theorem mergeStates_ok {base a b : List NV} (h : (okState base && okState a && okState b) = true) : mergeStates base a b = merge2 base a b := if_pos h
theorem mergeStates_no {base a b : List NV} (h : ¬ (okState base && okState a && okState b) = true) : mergeStates base a b = ([], 1) := if_neg h
theorem setTo_len {xs : List NV} {e : NV} {k : Nat} : (setTo xs e k).1.length ≤ k + 1 := by
  unfold setTo
  split
  · simp; omega
  · have := setL_len (xs := xs.take k) (e := e)
    have h2 : (xs.take k).length ≤ k := by simp; omega
    simp only; omega
theorem mid_yes {xs : List NV} {e x : NV} {k : Nat} (h1 : (setTo xs e k).2 = false) (h2 : Op.bytesLess x.name e.name = false) : midSet xs e k x = ((setTo xs e k).1 ++ [e], true) := if_pos ⟨h1, h2⟩
theorem mid_no1 {xs : List NV} {e x : NV} {k : Nat} (h1 : (setTo xs e k).2 = true) : midSet xs e k x = setTo xs e k := if_neg (fun h => by rw [h1] at h; cases h.1)
theorem mid_no2 {xs : List NV} {e x : NV} {k : Nat} (h2 : Op.bytesLess x.name e.name = true) : midSet xs e k x = setTo xs e k := if_neg (fun h => by rw [h2] at h; cases h.2)
theorem mergeG_yes {base a b ys : List NV} {k : Nat} {n : List UInt8} (h : (names3 base a b)[k]? = some n) (hy : okState ys = true) (hmv : mergeV base a b n = vIn ys n) (hnm : (getZ ys n).name ≠ []) :
    (mergeTo base a b k).map encNV ++ [encNV (getZ ys n)] = (mergeTo base a b (k + 1)).map encNV := by
  rcases get_cases hy n with ⟨_, h2⟩ | ⟨h1, h2⟩
  · rw [h2] at hnm; exact absurd rfl hnm
  · rw [← merge_yes h hmv h1, h2]; rfl
theorem mergeG_no {base a b ys : List NV} {k : Nat} {n : List UInt8} (h : (names3 base a b)[k]? = some n) (hy : okState ys = true) (hn : n ≠ []) (hmv : mergeV base a b n = vIn ys n) (hnm : (getZ ys n).name = []) :
    mergeTo base a b (k + 1) = mergeTo base a b k := by
  rcases get_cases hy n with ⟨h1, h2⟩ | ⟨_, h2⟩
  · exact merge_no h (by rw [hmv, h1]; omega)
  · rw [h2] at hnm; exact absurd hnm hn
theorem rises_nil : Rises (namesOf []) := by simp [Rises, namesOf]
theorem insAll_len0 {xs : List NV} : (insAll [] xs).length ≤ xs.length := by have := insAll_len (acc := []) (xs := xs); simpa using this
theorem of_str_ne {s : List UInt8} (h : (!(s == [])) = true) : s ≠ [] := by simpa using h
theorem of_str_eq {s : List UInt8} (h : (!(s == [])) = false) : s = [] := by simpa using h
theorem confOf_len (base a b : List NV) : (conflictsOf base a b).1.length ≤ 1000 := by
  unfold conflictsOf
  split
  · rename_i h
    obtain ⟨⟨h1, h2⟩, h3⟩ : (okState base = true ∧ okState a = true) ∧ okState b = true := by simpa using h
    have h4 := conflL_len (base := base) (a := a) (b := b)
    have h5 := state_len h1; have h6 := state_len h2; have h7 := state_len h3
    simp only; omega
  · simp
theorem mergeSt_len (base a b : List NV) : (mergeStates base a b).1.length ≤ 1000 := by
  by_cases h : (okState base && okState a && okState b) = true
  · rw [mergeStates_ok h]; unfold merge2
    split
    · simp
    · split
      · simp
      · simp only; omega
  · rw [mergeStates_no h]; simp
end Go.V
