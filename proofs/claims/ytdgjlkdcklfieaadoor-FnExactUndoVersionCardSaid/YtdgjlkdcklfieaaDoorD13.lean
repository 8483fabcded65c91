/- Marks that are corrected. -/
import Derived.Test.YtdgjlkdcklfieaaDoorD12
set_option linter.all false
namespace Go.V
open Go
/-- The first k are turned, the rest are as they were. -/
def mixed {α : Type} (f : α → α) (enc : α → List PV) (xs : List α) (k : Nat) : List (List PV) := ((xs.take k).map f).map enc ++ (xs.drop k).map enc
section
variable {α : Type} {f : α → α} {enc : α → List PV} {xs : List α} {k : Nat} {x : α}
theorem mixed_zero : mixed f enc xs 0 = xs.map enc := by simp [mixed]
theorem mixed_end : mixed f enc xs xs.length = (xs.map f).map enc := by simp [mixed]
theorem mixed_length (h : k ≤ xs.length) : (mixed f enc xs k).length = xs.length := by simp [mixed]; omega
theorem mixed_get (h : xs[k]? = some x) : (mixed f enc xs k)[k]? = some (enc x) := by
  have hk := lt_of_get h
  unfold mixed
  rw [List.getElem?_append_right (by simp; omega)]
  have e : k - (List.map enc (List.map f (List.take k xs))).length = 0 := by simp; omega
  rw [e]; simp [h]
theorem mixed_set (h : xs[k]? = some x) : (mixed f enc xs k).set k (enc (f x)) = mixed f enc xs (k + 1) := by
  have hk := lt_of_get h
  have hx : xs[k] = x := by rw [List.getElem?_eq_getElem hk] at h; exact Option.some.inj h
  unfold mixed
  rw [List.set_append_right _ _ (by simp; omega)]
  have e : k - (List.map enc (List.map f (List.take k xs))).length = 0 := by simp; omega
  rw [e, List.drop_eq_getElem_cons hk, take_snoc h]
  simp [hx]
end
def fixM (t l : Int) (x : CMark) : CMark := ⟨x.az, x.al, (x.found + t) % 360000, max 0 (min 90000 (x.height + l))⟩
theorem fix_lim {x : CMark} {t l : Int} (h : okMark x = true) : i64b (fixM t l x).az ∧ i64b (fixM t l x).al ∧ i64b (fixM t l x).found ∧ i64b (fixM t l x).height := by
  have := mark_lim h
  refine ⟨⟨?_, ?_⟩, ⟨?_, ?_⟩, ⟨?_, ?_⟩, ⟨?_, ?_⟩⟩ <;> simp only [fixM] <;> omega
def fitsAll (t l : Int) (xs : List CMark) : Bool := xs.all fun x => okMark (fixM t l x)
def fixL (t l : Int) (xs : List CMark) : List CMark := if fitsAll t l xs = true then xs.map (fixM t l) else []
def correctMarks (xs : List CMark) (t l : Int) : List CMark × Int :=
  if askMarks xs = 0 then (if (decide (-5000 ≤ t) && decide (t ≤ 5000)) && (decide (-5000 ≤ l) && decide (l ≤ 5000)) then (if fitsAll t l xs = true then (xs.map (fixM t l), 0) else ([], 6)) else ([], 2)) else ([], askMarks xs)
theorem correct_len (xs : List CMark) (t l : Int) : (correctMarks xs t l).1.length ≤ xs.length := by
  unfold correctMarks; split <;> (try split) <;> (try split) <;> simp
theorem fits_miss {xs : List CMark} {t l : Int} {k : Nat} {x : CMark} (hx : xs[k]? = some x) (h : okMark (fixM t l x) = false) : fitsAll t l xs = false := all_miss hx h
theorem fits_all {xs : List CMark} {t l : Int} (h : allTo (fun x => okMark (fixM t l x)) xs xs.length = true) : fitsAll t l xs = true := by rw [allTo_all] at h; exact h
theorem fixL_len (xs : List CMark) (t l : Int) : (fixL t l xs).length ≤ xs.length := by unfold fixL; split <;> simp
end Go.V
namespace Go.V
theorem tupB {i : Nat} {n m : Bool} (h : n = m) : AV.tup [.h i, .p (.v (.bool n))] = AV.tup [.h i, .p (.v (.bool m))] := by rw [h]
end Go.V
