/- What the program's functions on plans, latest loads, lines of versions and heads answer. -/
import Derived.Test.YtbbechcbdeknnaaD12
set_option linter.all false
namespace Go.V
open Go

/-- How late the loads may end, from the last need on: j needs are seen. -/
def endF (ms xs : List NV) (b : Int) : Nat → Int
  | 0 => 7200000
  | j + 1 => match xs[xs.length - 1 - j]? with | some x => min (endF ms xs b j) x.val - loadT ms b x | none => endF ms xs b j
def endV (ms xs : List NV) (b : Int) : Nat → List Int
  | 0 => []
  | j + 1 => endF ms xs b (j + 1) :: endV ms xs b j
def endOk (ms xs : List NV) (b : Int) : Nat → Bool
  | 0 => true
  | j + 1 => endOk ms xs b j && decide (0 ≤ endF ms xs b (j + 1))
theorem endF_succ {ms xs : List NV} {b : Int} {j : Nat} {x : NV} (h : xs[xs.length - 1 - j]? = some x) : endF ms xs b (j + 1) = min (endF ms xs b j) x.val - loadT ms b x := by simp [endF, h]
theorem endV_len (ms xs : List NV) (b : Int) (j : Nat) : (endV ms xs b j).length = j := by induction j with
  | zero => rfl
  | succ j ih => simp [endV, ih]
theorem endOk_mono {ms xs : List NV} {b : Int} {i j : Nat} (h : i ≤ j) (hj : endOk ms xs b j = true) : endOk ms xs b i = true := by
  induction j with
  | zero => obtain rfl : i = 0 := by omega
            rfl
  | succ j ih =>
    rcases Nat.lt_or_ge i (j + 1) with h1 | h1
    · simp only [endOk, Bool.and_eq_true] at hj; exact ih (by omega) hj.1
    · obtain rfl : i = j + 1 := by omega
      exact hj
theorem endOk_bad {ms xs : List NV} {b : Int} {j n : Nat} (h : endF ms xs b (j + 1) < 0) (hj : j < n) : endOk ms xs b n = false := by
  cases e : endOk ms xs b n with
  | false => rfl
  | true =>
    have := endOk_mono (i := j + 1) (by omega) e
    simp only [endOk, Bool.and_eq_true, decide_eq_true_eq] at this
    omega
def endRows (ms xs : List NV) (b : Int) (j : Nat) : List (List PV) := (List.replicate (xs.length - j) 0 ++ endV ms xs b j).map encI
theorem endRows_zero (ms xs : List NV) (b : Int) : endRows ms xs b 0 = List.replicate xs.length [.v (.int .i64 0)] := by simp [endRows, endV, encI]
theorem endRows_end (ms xs : List NV) (b : Int) : endRows ms xs b xs.length = (endV ms xs b xs.length).map encI := by simp [endRows]
theorem endRows_len (ms xs : List NV) (b : Int) {j : Nat} (h : j ≤ xs.length) : (endRows ms xs b j).length = xs.length := by simp [endRows, endV_len]; omega
theorem endRows_get {ms xs : List NV} {b : Int} {j : Nat} (h : j < xs.length) : (endRows ms xs b j)[xs.length - 1 - j]? = some [.v (.int .i64 0)] := by
  unfold endRows
  rw [List.getElem?_map, List.getElem?_append_left (by simp; omega)]
  rw [List.getElem?_replicate, if_pos (by omega)]; rfl
theorem endRows_set {ms xs : List NV} {b : Int} {j : Nat} (h : j < xs.length) : (endRows ms xs b j).set (xs.length - 1 - j) (encI (endF ms xs b (j + 1))) = endRows ms xs b (j + 1) := by
  unfold endRows
  rw [← List.map_set, List.set_append_left _ _ (by simp; omega)]
  congr 1
  have e : xs.length - j = (xs.length - 1 - j) + 1 := by omega
  have e2 : xs.length - (j + 1) = xs.length - 1 - j := by omega
  rw [e, e2, List.replicate_succ', List.set_append_right _ _ (by simp)]
  simp [endV]
theorem endF_lim {ms xs : List NV} (h : okNeeds ms xs = true) {b : Int} (hb : 1 ≤ b) (j : Nat) : -100000000 * (j : Int) ≤ endF ms xs b j ∧ endF ms xs b j ≤ 7200000 := by
  obtain ⟨h1, h2, _⟩ := needs_ok h
  induction j with
  | zero => simp [endF]
  | succ j ih =>
    cases hx : xs[xs.length - 1 - j]? with
    | none => simp only [endF, hx]; omega
    | some x =>
      rw [endF_succ hx]
      have := loadT_lim h1 hb x
      have := need_lim (allI_at h2 hx)
      omega
def latestLoads (ms xs : List NV) (b : Int) : List Int × Int := if askNeeds ms xs b = 0 then (if endOk ms xs b xs.length = true then (endV ms xs b xs.length, 0) else ([], 6)) else ([], askNeeds ms xs b)
theorem latest_bad {ms xs : List NV} {b : Int} {j : Nat} (hk : askNeeds ms xs b = 0) (h : endF ms xs b (j + 1) < 0) (hj : j < xs.length) : latestLoads ms xs b = ([], 6) := by
  unfold latestLoads; rw [if_pos hk, if_neg (by rw [endOk_bad h hj]; simp)]
theorem latest_good {ms xs : List NV} {b : Int} (hk : askNeeds ms xs b = 0) (h : endOk ms xs b xs.length = true) : latestLoads ms xs b = (endV ms xs b xs.length, 0) := by
  unfold latestLoads; rw [if_pos hk, if_pos h]
theorem latest_len (ms xs : List NV) (b : Int) : (latestLoads ms xs b).1.length ≤ xs.length := by unfold latestLoads; split <;> (try split) <;> simp [endV_len]
theorem plan_len (ms xs : List NV) (b : Int) : (loadPlan ms xs b).1.length ≤ xs.length := by unfold loadPlan; split <;> simp [planL_len]

/-! Lines of versions. -/
def par (xs : List Ver) (n : Int) : Int := ((xs[(n - 1).toNat]?).map Ver.parent).getD 0
theorem par_eq {xs : List Ver} {n : Int} {x : Ver} (h : xs[(n - 1).toNat]? = some x) : par xs n = x.parent := by unfold par; rw [h]; rfl
theorem par_lim {xs : List Ver} (h : okVers xs = true) {n : Int} (h1 : 0 < n) : 0 ≤ par xs n ∧ par xs n < n := by
  unfold par
  cases hx : xs[(n - 1).toNat]? with
  | none => simp; omega
  | some x => have := ver_lim (ver_at h hx); simp; omega
def line (xs : List Ver) (n : Int) : List Int := if h : 0 < n then (if h2 : par xs n < n then n :: line xs (par xs n) else [n]) else []
termination_by n.toNat
decreasing_by omega
theorem line_pos {xs : List Ver} (hok : okVers xs = true) {n : Int} (h : 0 < n) : line xs n = n :: line xs (par xs n) := by
  rw [line, dif_pos h, dif_pos (par_lim hok h).2]
theorem line_zero {xs : List Ver} {n : Int} (h : ¬ 0 < n) : line xs n = [] := by rw [line, dif_neg h]
theorem line_len {xs : List Ver} : ∀ (m : Nat) (n : Int), n.toNat ≤ m → (line xs n).length ≤ n.toNat := by
  intro m
  induction m with
  | zero => intro n h; rw [line_zero (by omega)]; simp
  | succ m ih =>
    intro n h
    rw [line]
    split
    · split
      · next h1 h2 => have := ih (par xs n) (by omega); simp only [List.length_cons]; omega
      · simp; omega
    · simp
theorem line_lim {xs : List Ver} (n : Int) : (line xs n).length ≤ n.toNat := line_len _ n (Nat.le_refl _)
def commonA (xs : List Ver) (a b : Int) : Int := ((line xs a).find? fun n => decide (n ∈ line xs b)).getD 0
def inVers (xs : List Ver) (n : Int) : Bool := decide (1 ≤ n) && decide (n ≤ (xs.length : Int))
def commonAncestor (xs : List Ver) (a b : Int) : Int × Int := if okVers xs = true then (if inVers xs a && inVers xs b then (commonA xs a b, 0) else (0, 3)) else (0, 1)
def findTo {α : Type} (p : α → Bool) (xs : List α) (k : Nat) : Option α := (xs.take k).find? p
theorem find_hit {p : Int → Bool} {xs : List Int} {k : Nat} {x : Int} (h : anyTo p xs k = false) (hx : xs[k]? = some x) (hp : p x = true) : (xs.find? p).getD 0 = x := by
  have : xs.find? p = some x := by
    rw [List.find?_eq_some_iff_getElem]
    have hk := lt_of_get hx
    refine ⟨hp, k, hk, by rw [List.getElem?_eq_getElem hk] at hx; exact Option.some.inj hx, ?_⟩
    intro j hj
    have hm : xs[j]'(by omega) ∈ xs.take k := by rw [List.mem_take_iff_getElem]; exact ⟨j, by omega, rfl⟩
    have := List.any_eq_false.1 h _ hm
    simpa using this
  simp [this]
theorem find_miss {p : Int → Bool} {xs : List Int} (h : anyTo p xs xs.length = false) : (xs.find? p).getD 0 = 0 := by
  rw [anyTo_all] at h
  have : xs.find? p = none := by
    rw [List.find?_eq_none]; intro x hx; simpa using List.any_eq_false.1 h x hx
  simp [this]
def isHead (xs : List Ver) (v : Ver) : Bool := !xs.any fun x => x.parent == v.number
theorem head_all {xs : List Ver} {v : Ver} : allTo (fun x => x.parent != v.number) xs xs.length = isHead xs v := by
  rw [allTo_all, isHead, List.not_any_eq_all_not]; rfl
def headsOf (xs : List Ver) : List Int × Int := if okVers xs = true then ((xs.filter (isHead xs)).map Ver.number, 0) else ([], 1)
theorem heads_len (xs : List Ver) : (headsOf xs).1.length ≤ xs.length := by
  unfold headsOf; split
  · simp only [List.length_map]; exact List.length_filter_le ..
  · simp
end Go.V
namespace Go.V
/-- The heads among the first k. -/
def headsTo (xs : List Ver) (k : Nat) : List Int := ((xs.take k).filter (isHead xs)).map Ver.number
theorem headsTo_end {xs : List Ver} : headsTo xs xs.length = (xs.filter (isHead xs)).map Ver.number := by simp [headsTo]
theorem headsTo_yes {xs : List Ver} {k : Nat} {x : Ver} (hx : xs[k]? = some x) (h : isHead xs x = true) : headsTo xs (k + 1) = headsTo xs k ++ [x.number] := by
  unfold headsTo; rw [take_snoc hx, List.filter_append, List.map_append]; simp [h]
theorem headsTo_no {xs : List Ver} {k : Nat} {x : Ver} (hx : xs[k]? = some x) (h : isHead xs x = false) : headsTo xs (k + 1) = headsTo xs k := by
  unfold headsTo; rw [take_snoc hx, List.filter_append]; simp [h]
theorem headsTo_len (xs : List Ver) (k : Nat) : (headsTo xs k).length ≤ k := by
  unfold headsTo; rw [List.length_map]
  refine Nat.le_trans (List.length_filter_le ..) ?_
  rw [List.length_take]; omega
end Go.V
