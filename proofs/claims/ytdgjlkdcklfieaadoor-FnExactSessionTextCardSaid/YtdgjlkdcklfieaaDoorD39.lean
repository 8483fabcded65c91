/- Lists of numbers, sessions, as text. -/
import Derived.Test.YtdgjlkdcklfieaaDoorD37
import Derived.Lib.Join
set_option linter.all false
namespace Go.V
open Go
theorem join_snoc {x y sep : List UInt8} {r : List (List UInt8)} : Lib.join (x :: r ++ [y]) sep = Lib.join (x :: r) sep ++ sep ++ y := by
  rw [List.cons_append, Lib.join_cons, Lib.join_cons]
  simp [Lib.joinTail]
def listTo (l : List Int) (k : Nat) : List UInt8 := Lib.join ((l.map Lib.itoa).take k) [44]
def listD (l : List Int) : List UInt8 := if l.length = 0 then [45] else Lib.join (l.map Lib.itoa) [44]
theorem listTo_zero (l : List Int) : listTo l 0 = [] := rfl
theorem listTo_one {l : List Int} {n : Int} (h : l[0]? = some n) : listTo l 1 = Lib.itoa n := by
  cases l with
  | nil => cases h
  | cons a l =>
    simp only [List.getElem?_cons_zero, Option.some.injEq] at h; subst h
    unfold listTo; simp [Lib.join_one]
theorem listTo_succ {l : List Int} {k : Nat} {n : Int} (h : l[k]? = some n) (hk : 0 < k) : listTo l (k + 1) = listTo l k ++ [44] ++ Lib.itoa n := by
  unfold listTo
  rw [take_snoc (by rw [List.getElem?_map, h]; rfl : (l.map Lib.itoa)[k]? = some (Lib.itoa n))]
  cases hl : (l.map Lib.itoa).take k with
  | nil =>
    have := lt_of_get h
    have h2 := congrArg List.length hl
    simp only [List.length_take, List.length_map, List.length_nil] at h2; omega
  | cons a r => exact join_snoc
theorem listTo_end {l : List Int} : listTo l l.length = Lib.join (l.map Lib.itoa) [44] := by unfold listTo; rw [List.take_of_length_le (by simp)]
theorem join_len {m : Nat} : ∀ {r : List (List UInt8)}, (∀ s ∈ r, s.length ≤ m) → (Lib.join r [44]).length ≤ (m + 1) * r.length
  | [], _ => by rw [Lib.join_nil]; simp
  | x :: r, h => by
    rw [Lib.join_cons, List.length_append]
    have key : ∀ {r : List (List UInt8)}, (∀ s ∈ r, s.length ≤ m) → (Lib.joinTail [44] r).length ≤ (m + 1) * r.length := by
      intro r
      induction r with
      | nil => intro _; simp [Lib.joinTail]
      | cons y r ih =>
        intro h
        have h1 := ih (fun s hs => h s (by simp [hs]))
        have h2 := h y (by simp)
        unfold Lib.joinTail at h1 ⊢
        simp only [List.map_cons, List.flatten_cons, List.length_append, List.length_cons, List.length_nil]
        rw [Nat.mul_succ]; omega
    have h1 := key (r := r) (fun s hs => h s (by simp [hs]))
    have h2 := h x (by simp)
    rw [List.length_cons, Nat.mul_succ]; omega
theorem texts_len {l : List Int} (h : ∀ n ∈ l, n.natAbs < 1000000000000000000) (k : Nat) : ∀ s ∈ (l.map Lib.itoa).take k, s.length ≤ 19 := fun s hs => by
  obtain ⟨n, hn, rfl⟩ := List.mem_map.1 (List.mem_of_mem_take hs)
  exact itoa_len (h n hn)
theorem listTo_len {l : List Int} (h : ∀ n ∈ l, n.natAbs < 1000000000000000000) (hl : l.length ≤ 64) (k : Nat) : (listTo l k).length ≤ 1280 := by
  have h1 := join_len (m := 19) (texts_len h k)
  have h2 : ((l.map Lib.itoa).take k).length ≤ 64 := by rw [List.length_take, List.length_map]; omega
  have h3 := Nat.mul_le_mul_left 20 h2
  unfold listTo; omega
def sessL (x : Session) : List Int := [x.day, x.turn, x.lift, x.error]
def sessText (x : Session) : List UInt8 := if okSession x = true then listD (sessL x) else []
theorem sess_lim {x : Session} (h : okSession x = true) : ∀ n ∈ sessL x, -1000000000000 ≤ n ∧ n ≤ 1000000000000 := by
  simp only [okSession, Bool.and_eq_true, decide_eq_true_eq] at h
  intro n hn
  simp only [sessL, List.mem_cons, List.not_mem_nil, or_false] at hn
  rcases hn with rfl | rfl | rfl | rfl <;> omega
theorem listD_pos {l : List Int} (h : ¬ l.length = 0) : listD l = listTo l l.length := by rw [listTo_end]; exact if_neg h
theorem listD_zero {l : List Int} (h : l.length = 0) : listD l = [45] := if_pos h
end Go.V
