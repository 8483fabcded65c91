/- Groups, rows, and the search for seats. -/
import Derived.Test.YtnejigdldeipdaaD8
import Derived.Test.YtnejigdldeipdaaV20
set_option linter.all false
namespace Go.V
open Go
def okGroup (x : Group) : Bool := isName x.name && (decide (1 ≤ x.persons) && decide (x.persons ≤ 40)) && (decide (-1 ≤ x.wish) && decide (x.wish ≤ 9))
def geGroup (y x : Group) : Bool := !Op.bytesLess y.name x.name
def okGroups (xs : List Group) : Bool := okB okGroup geGroup xs && decide (xs.length ≤ 12)
def okRow (n : Int) : Bool := decide (0 ≤ n) && decide (n ≤ 40)
def okRows (rs : List Int) : Bool := rs.all okRow && decide (rs.length ≤ 10)
theorem group_lim {x : Group} (h : okGroup x = true) : 1 ≤ x.persons ∧ x.persons ≤ 40 ∧ -1 ≤ x.wish ∧ x.wish ≤ 9 := by
  simp only [okGroup, Bool.and_eq_true, decide_eq_true_eq] at h; omega
theorem groups_at {xs : List Group} (h : okGroups xs = true) {k : Nat} {x : Group} (hx : xs[k]? = some x) : okGroup x = true := by
  unfold okGroups at h; rw [Bool.and_eq_true] at h; exact okB_at h.1 hx
theorem groups_len {xs : List Group} (h : okGroups xs = true) : xs.length ≤ 12 := by
  unfold okGroups at h; rw [Bool.and_eq_true] at h; simpa using h.2
theorem rows_len {rs : List Int} (h : okRows rs = true) : rs.length ≤ 10 := by
  unfold okRows at h; rw [Bool.and_eq_true] at h; simpa using h.2
/-- What the search answers. -/
inductive Seat where
  | found (pl : List Int)
  | none (left : Int)
  | full
def rowAt (free : List Int) (r : Nat) : Int := (free[r]?).getD 0
def seatLoop (f : List Int → List Int → Int → Seat) (p : Int) (free pl : List Int) : Nat → Int → Seat
  | 0, left => .none left
  | k + 1, left =>
    if rowAt free (free.length - (k + 1)) < p then seatLoop f p free pl k left
    else if left = 0 then .full
    else match f (free.set (free.length - (k + 1)) (rowAt free (free.length - (k + 1)) - p)) (pl ++ [((free.length - (k + 1) : Nat) : Int)]) (left - 1) with
      | .none l => seatLoop f p free pl k l
      | x => x
def seat : List Int → List Int → List Int → Int → Seat
  | [], _, pl, _ => .found pl
  | p :: ps, free, pl, left => seatLoop (seat ps) p free pl free.length left
section
variable {f : List Int → List Int → Int → Seat} {p left : Int} {free pl : List Int} {r k : Nat}
theorem seatLoop_skip (hk : free.length - r = k + 1) (h : rowAt free r < p) : seatLoop f p free pl (free.length - r) left = seatLoop f p free pl (free.length - (r + 1)) left := by
  rw [hk, seatLoop, show free.length - (k + 1) = r by omega, if_pos h, show free.length - (r + 1) = k by omega]
theorem seatLoop_full (hk : free.length - r = k + 1) (h : ¬ rowAt free r < p) (h0 : left = 0) : seatLoop f p free pl (free.length - r) left = .full := by
  rw [hk, seatLoop, show free.length - (k + 1) = r by omega, if_neg h, if_pos h0]
theorem seatLoop_none (hk : free.length - r = k + 1) (h : ¬ rowAt free r < p) (h0 : left ≠ 0) {l : Int} (hf : f (free.set r (rowAt free r - p)) (pl ++ [(r : Int)]) (left - 1) = .none l) : seatLoop f p free pl (free.length - r) left = seatLoop f p free pl (free.length - (r + 1)) l := by
  rw [hk, seatLoop, show free.length - (k + 1) = r by omega, if_neg h, if_neg h0, hf, show free.length - (r + 1) = k by omega]
theorem seatLoop_found (hk : free.length - r = k + 1) (h : ¬ rowAt free r < p) (h0 : left ≠ 0) {q : List Int} (hf : f (free.set r (rowAt free r - p)) (pl ++ [(r : Int)]) (left - 1) = .found q) : seatLoop f p free pl (free.length - r) left = .found q := by
  rw [hk, seatLoop, show free.length - (k + 1) = r by omega, if_neg h, if_neg h0, hf]
theorem seatLoop_fulls (hk : free.length - r = k + 1) (h : ¬ rowAt free r < p) (h0 : left ≠ 0) (hf : f (free.set r (rowAt free r - p)) (pl ++ [(r : Int)]) (left - 1) = .full) : seatLoop f p free pl (free.length - r) left = .full := by
  rw [hk, seatLoop, show free.length - (k + 1) = r by omega, if_neg h, if_neg h0, hf]
end
def firstSeating (gs : List Group) (rs : List Int) (b : Int) : List Int × Int :=
  if okGroups gs && okRows rs then (if decide (1 ≤ b) && decide (b ≤ 20000) then (match seat (gs.map Group.persons) rs [] b with
    | .found pl => (pl, 0)
    | .none _ => ([], 3)
    | .full => ([], 5)) else ([], 2)) else ([], 1)
end Go.V
