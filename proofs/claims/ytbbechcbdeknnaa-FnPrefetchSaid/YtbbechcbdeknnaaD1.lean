/- Plain data of the program's types, and lists of them as rows of cells. -/
import Derived.Test.YtbbechcbdeknnaaV10
import Derived.Test.YtbbechcbdeknnaaV9
set_option linter.all false
namespace Go.V
open Go

structure Sample where
  sent : Int
  other : Int
  back : Int
  deriving DecidableEq, Inhabited
def encSample (x : Sample) : List PV := [.v (.int .i64 x.sent), .v (.int .i64 x.other), .v (.int .i64 x.back)]
structure CMark where
  az : Int
  al : Int
  found : Int
  height : Int
  deriving DecidableEq, Inhabited
def encCMark (x : CMark) : List PV := [.v (.int .i64 x.az), .v (.int .i64 x.al), .v (.int .i64 x.found), .v (.int .i64 x.height)]
structure Session where
  day : Int
  turn : Int
  lift : Int
  error : Int
  deriving DecidableEq, Inhabited
def encSession (x : Session) : List PV := [.v (.int .i64 x.day), .v (.int .i64 x.turn), .v (.int .i64 x.lift), .v (.int .i64 x.error)]
structure Mach where
  name : List UInt8
  offset : Int
  delay : Int
  deriving DecidableEq, Inhabited
def encMach (x : Mach) : List PV := [.v (str x.name), .v (.int .i64 x.offset), .v (.int .i64 x.delay)]
/-- A name and a number: a file and its size, a need and its time, a setting and its value. -/
structure NV where
  name : List UInt8
  val : Int
  deriving DecidableEq, Inhabited
def encNV (x : NV) : List PV := [.v (str x.name), .v (.int .i64 x.val)]
structure Group where
  name : List UInt8
  persons : Int
  wish : Int
  deriving DecidableEq, Inhabited
def encGroup (x : Group) : List PV := [.v (str x.name), .v (.int .i64 x.persons), .v (.int .i64 x.wish)]
def encI (x : Int) : List PV := [.v (.int .i64 x)]
def encS (x : List UInt8) : List PV := [.v (str x)]

theorem flatSample (x : Sample) : PV.FlatL (encSample x) := by simp [encSample, PV.FlatL, PV.Flat]
theorem flatCMark (x : CMark) : PV.FlatL (encCMark x) := by simp [encCMark, PV.FlatL, PV.Flat]
theorem flatSession (x : Session) : PV.FlatL (encSession x) := by simp [encSession, PV.FlatL, PV.Flat]
theorem flatMach (x : Mach) : PV.FlatL (encMach x) := by simp [encMach, PV.FlatL, PV.Flat]
theorem flatNV (x : NV) : PV.FlatL (encNV x) := by simp [encNV, PV.FlatL, PV.Flat]
theorem flatGroup (x : Group) : PV.FlatL (encGroup x) := by simp [encGroup, PV.FlatL, PV.Flat]
theorem flatI (x : Int) : PV.FlatL (encI x) := by simp [encI, PV.FlatL, PV.Flat]
theorem flatS (x : List UInt8) : PV.FlatL (encS x) := by simp [encS, PV.FlatL, PV.Flat]
theorem flat_map {α : Type} {enc : α → List PV} (h : ∀ x, PV.FlatL (enc x)) (xs : List α) : ∀ r ∈ xs.map enc, PV.FlatL r := by
  intro r hr
  obtain ⟨x, _, rfl⟩ := List.mem_map.1 hr
  exact h x

/-- A list that is being filled: the first k are there, the rest still blank. -/
def filled {α : Type} (enc : α → List PV) (z : List PV) (xs : List α) (k : Nat) : List (List PV) := (xs.take k).map enc ++ List.replicate (xs.length - k) z
section
variable {α : Type} {enc : α → List PV} {z : List PV} {xs : List α} {k : Nat} {x : α}
theorem filled_zero : filled enc z xs 0 = List.replicate xs.length z := by simp [filled]
theorem filled_end : filled enc z xs xs.length = xs.map enc := by simp [filled]
theorem filled_length (h : k ≤ xs.length) : (filled enc z xs k).length = xs.length := by simp [filled]; omega
theorem filled_get (h : k < xs.length) : (filled enc z xs k)[k]? = some z := by
  unfold filled
  rw [List.getElem?_append_right (by simp; omega)]
  simp [List.getElem?_replicate]
  omega
theorem filled_set (h : xs[k]? = some x) : (filled enc z xs k).set k (enc x) = filled enc z xs (k + 1) := by
  have hk : k < xs.length := (List.getElem?_eq_some_iff.1 h).1
  unfold filled
  rw [List.set_append_right _ _ (by simp; omega)]
  have e1 : (List.map enc (List.take k xs)).length = k := by simp; omega
  rw [e1, Nat.sub_self, show xs.length - k = (xs.length - (k + 1)) + 1 by omega, List.replicate_succ, List.set_cons_zero, List.take_add_one, h]
  simp
end

theorem get_some {α : Type} {xs : List α} {k : Nat} (h : k < xs.length) : ∃ x, xs[k]? = some x := ⟨_, List.getElem?_eq_getElem h⟩
theorem take_snoc {α : Type} {xs : List α} {k : Nat} {x : α} (h : xs[k]? = some x) : xs.take (k + 1) = xs.take k ++ [x] := by rw [List.take_add_one, h]; rfl
theorem lt_of_get {α : Type} {xs : List α} {k : Nat} {x : α} (h : xs[k]? = some x) : k < xs.length := (List.getElem?_eq_some_iff.1 h).1
/-- From a test of a loop. -/
theorem lt_of_dec {k n : Nat} (h : decide ((k : Int) < (n : Int)) = true) : k < n := by simpa using h
theorem ge_of_dec {k n : Nat} (h : decide ((k : Int) < (n : Int)) = false) : n ≤ k := by simpa using h
theorem lt_of_decM {α β : Type} {k : Nat} {xs : List α} {f : α → β} (h : decide ((k : Int) < ((xs.map f).length : Int)) = true) : k < xs.length := by simpa using h
theorem ge_of_decM {α β : Type} {k : Nat} {xs : List α} {f : α → β} (h : decide ((k : Int) < ((xs.map f).length : Int)) = false) : xs.length ≤ k := by simpa using h

theorem wf_i64 {n : Int} (h : (Lit.int .i64 n).wf = true) : -9223372036854775808 ≤ n ∧ n ≤ 9223372036854775807 := by
  simpa [Lit.wf, IntKind.min, IntKind.max, IntKind.signed, IntKind.bits] using h

/-- Rows of a type are rows of a list. -/
theorem rows_of {α : Type} {enc : α → List PV} {good : α → Prop} {e : Ty} (h : ∀ r, e.Has r → ∃ x, r = enc x ∧ good x) : ∀ rows : List (List PV), (∀ r ∈ rows, e.Has r) → ∃ xs : List α, rows = xs.map enc ∧ ∀ x ∈ xs, good x
  | [], _ => ⟨[], rfl, by simp⟩
  | r :: rows, hr => by
    obtain ⟨x, rfl, hx⟩ := h r (hr r (by simp))
    obtain ⟨xs, rfl, hxs⟩ := rows_of h rows (fun q hq => hr q (by simp [hq]))
    exact ⟨x :: xs, rfl, by simpa using ⟨hx, hxs⟩⟩

/-! Lists whose elements are all right and rise. -/
section
variable {α : Type} (one : α → Bool) (ge : α → α → Bool) (xs : List α)
def okTo : Nat → Bool
  | 0 => true
  | k + 1 => okTo k && (match xs[k]? with
    | none => true
    | some x => one x && (match k with
      | 0 => true
      | j + 1 => match xs[j]? with
        | none => true
        | some y => !ge y x))
def okB : Bool := okTo one ge xs xs.length
variable {one ge xs} {k : Nat} {x y : α}
theorem okTo_mono {j k : Nat} (h : j ≤ k) (hk : okTo one ge xs k = true) : okTo one ge xs j = true := by
  induction k with
  | zero => obtain rfl : j = 0 := by omega
            rfl
  | succ k ih =>
    by_cases e : j = k + 1
    · subst e; exact hk
    · simp only [okTo, Bool.and_eq_true] at hk; exact ih (by omega) hk.1
theorem okB_false {j : Nat} (h : j ≤ xs.length) (hj : okTo one ge xs j = false) : okB one ge xs = false := by
  cases hb : okB one ge xs with
  | false => rfl
  | true => have := okTo_mono (one := one) (ge := ge) (xs := xs) h hb; rw [hj] at this; cases this
theorem ok_one (hx : xs[k]? = some x) (h : one x = false) : okB one ge xs = false := by
  refine okB_false (j := k + 1) (lt_of_get hx) ?_
  simp [okTo, hx, h]
theorem ok_ge (hx : xs[k]? = some x) (hk : 0 < k) (hy : xs[k - 1]? = some y) (h : ge y x = true) : okB one ge xs = false := by
  refine okB_false (j := k + 1) (lt_of_get hx) ?_
  cases k with
  | zero => omega
  | succ j => simp at hy; simp [okTo, hx, hy, h]
theorem ok_first (h : okTo one ge xs k = true) (hx : xs[k]? = some x) (h1 : one x = true) (hk : ¬ 0 < k) : okTo one ge xs (k + 1) = true := by
  obtain rfl : k = 0 := by omega
  simp [okTo, hx, h1]
theorem ok_next (h : okTo one ge xs k = true) (hx : xs[k]? = some x) (h1 : one x = true) (hk : 0 < k) (hy : xs[k - 1]? = some y) (h2 : ge y x = false) : okTo one ge xs (k + 1) = true := by
  cases k with
  | zero => omega
  | succ j => simp at hy; simp [okTo, hx, hy, h1, h2] at h ⊢; exact h
theorem ok_all (h : okTo one ge xs xs.length = true) : okB one ge xs = true := h
end

theorem cb {a b : Bool} (h : a = b) : PV.v (.bool b) = PV.v (.bool a) := by rw [h]
theorem ci {k : IntKind} {a b : Int} (h : a = b) : PV.v (.int k b) = PV.v (.int k a) := by rw [h]

/-! Names. -/
def lowB (c : UInt8) : Bool := decide (97 ≤ (c.toNat : Int)) && decide ((c.toNat : Int) ≤ 122)
def digB (c : UInt8) : Bool := decide (48 ≤ (c.toNat : Int)) && decide ((c.toNat : Int) ≤ 57)
def isName (l : List UInt8) : Bool := decide (1 ≤ l.length) && decide (l.length ≤ 10) && (match l with
  | [] => false
  | c :: _ => lowB c) && l.all fun c => lowB c || digB c
def nameTo (l : List UInt8) (k : Nat) : Bool := (l.take k).all fun c => lowB c || digB c
theorem nameTo_succ {l : List UInt8} {k : Nat} {c : UInt8} (h : l[k]? = some c) : nameTo l (k + 1) = (nameTo l k && (lowB c || digB c)) := by
  unfold nameTo; rw [take_snoc h]; simp
theorem nameTo_all (l : List UInt8) : nameTo l l.length = l.all fun c => lowB c || digB c := by simp [nameTo]
theorem name_bad {l : List UInt8} {k : Nat} {c : UInt8} (h : l[k]? = some c) (h1 : lowB c = false) (h2 : digB c = false) : isName l = false := by
  have hm : c ∈ l := List.mem_of_getElem? h
  have : (l.all fun c => lowB c || digB c) = false := by
    rw [List.all_eq_false]; exact ⟨c, hm, by simp [h1, h2]⟩
  simp [isName, this]
theorem name_ok {l : List UInt8} {c : UInt8} (h : l[0]? = some c) (h0 : lowB c = true) (hl : l.length ≤ 10) (ha : nameTo l l.length = true) : isName l = true := by
  rw [nameTo_all] at ha
  cases l with
  | nil => simp at h
  | cons d l => simp at h; subst h; simp [isName, h0, ha] at hl ⊢; omega
theorem name_first {l : List UInt8} {c : UInt8} (h : l[0]? = some c) (h0 : lowB c = false) : isName l = false := by
  cases l with
  | nil => simp at h
  | cons d l => simp at h; subst h; simp [isName, h0]
theorem name_long {l : List UInt8} (h : 10 < l.length) : isName l = false := by simp [isName]; omega
theorem name_nil {l : List UInt8} (h : l.length = 0) : isName l = false := by simp [isName, h]
theorem u8_lt (c : UInt8) : (c.toNat : Int) < 256 ∧ 0 ≤ (c.toNat : Int) := by have := c.toNat_lt; omega
/-- What is left of a count when a text is taken off. -/
def szOne (l : List UInt8) (left : Int) : Int := if left - l.length < 0 then -1 else left - l.length

section
variable {α : Type} (f : α → List UInt8) (xs : List α)
def lensTo (k : Nat) : Int := ((xs.take k).map fun x => ((f x).length : Int)).sum
def lens : Int := (xs.map fun x => ((f x).length : Int)).sum
theorem sum_nonneg : ∀ l : List Int, (∀ x ∈ l, 0 ≤ x) → 0 ≤ l.sum
  | [], _ => by simp
  | a :: l, h => by
    have := sum_nonneg l (fun x hx => h x (by simp [hx]))
    have := h a (by simp)
    simp; omega
variable {f xs} {k : Nat} {x : α}
theorem lens_nn (l : List α) : ∀ y ∈ l.map (fun x => ((f x).length : Int)), 0 ≤ y := by
  intro y hy; obtain ⟨z, _, rfl⟩ := List.mem_map.1 hy; omega
theorem lensTo_zero : lensTo f xs 0 = 0 := rfl
theorem lensTo_succ (h : xs[k]? = some x) : lensTo f xs (k + 1) = lensTo f xs k + (f x).length := by
  unfold lensTo; rw [take_snoc h]; simp
theorem lensTo_all : lensTo f xs xs.length = lens f xs := by simp [lensTo, lens]
theorem lens_ge (k : Nat) : lensTo f xs k ≤ lens f xs := by
  unfold lensTo lens
  have : xs = xs.take k ++ xs.drop k := (List.take_append_drop k xs).symm
  conv => rhs; rw [this]
  rw [List.map_append, List.sum_append]
  have := sum_nonneg _ (lens_nn (f := f) (xs.drop k))
  omega
theorem lens_nonneg : 0 ≤ lens f xs := sum_nonneg _ (lens_nn (f := f) xs)
theorem lensTo_nonneg : 0 ≤ lensTo f xs k := sum_nonneg _ (lens_nn (f := f) _)
theorem len_le_lens (h : x ∈ xs) : ((f x).length : Int) ≤ lens f xs := by
  obtain ⟨k, hk⟩ := List.getElem?_of_mem h
  have h1 := lensTo_succ (f := f) hk
  have h2 := lens_ge (f := f) (xs := xs) (k + 1)
  have h3 : 0 ≤ lensTo f xs k := sum_nonneg _ (lens_nn (f := f) _)
  omega
end
/-- What is left of a count when a list of texts is taken off. -/
def szAll {α : Type} (f : α → List UInt8) (xs : List α) (left : Int) : Int := if left - xs.length - lens f xs < 0 then -1 else left - xs.length - lens f xs
theorem szOne_ge {l : List UInt8} {left : Int} (h : decide (szOne l left < 0) = false) : szOne l left = left - l.length ∧ 0 ≤ left - l.length := by
  simp only [decide_eq_false_iff_not] at h
  unfold szOne at h ⊢
  split at h
  · omega
  · next h1 => rw [if_neg h1]; omega
theorem szOne_lt {l : List UInt8} {left : Int} (h : decide (szOne l left < 0) = true) : left - l.length < 0 := by
  simp only [decide_eq_true_eq] at h
  unfold szOne at h
  split at h <;> omega
theorem szAll_ge {α : Type} {f : α → List UInt8} {xs : List α} {left : Int} (h : decide (szAll f xs left < 0) = false) : szAll f xs left = left - xs.length - lens f xs ∧ 0 ≤ left - xs.length - lens f xs := by
  simp only [decide_eq_false_iff_not] at h
  unfold szAll at h ⊢
  split at h
  · omega
  · next h1 => rw [if_neg h1]; omega
end Go.V
