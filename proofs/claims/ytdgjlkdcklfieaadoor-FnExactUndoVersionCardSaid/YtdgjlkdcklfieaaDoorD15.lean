/- Versions that are one's own: their cells, their states, their marks. -/
import Derived.Test.YtdgjlkdcklfieaaDoorD14
import Derived.Test.YtdgjlkdcklfieaaDoorD10
import Derived.Test.YtdgjlkdcklfieaaDoorV17
set_option linter.all false
namespace Go.V
open Go

def verC (x : Ver) : List PV := [.v (.int .i64 x.number), .v (.int .i64 x.parent), .v (str x.memo)]
def verI (x : Ver) : List (List PV) := x.state.map encNV
theorem ver_nest {xs : List Ver} : nestL 2 (xs.map verC) (xs.map verI) = xs.map encVer := by
  unfold nestL
  induction xs with
  | nil => rfl
  | cons x xs ih => simp only [List.map_cons, List.zipWith_cons_cons, ih]; rfl
theorem zip_snoc {α β γ : Type} (f : α → β → γ) : ∀ (l : List α) (m : List β) (k : Nat) (x : α) (y : β), l[k]? = some x → m.length = k → List.zipWith f l (m ++ [y]) = List.zipWith f l m ++ [f x y]
  | [], _, _, _, _, h, _ => by simp at h
  | a :: l, [], k, x, y, h, hm => by
    simp only [List.length_nil] at hm; subst hm
    simp only [List.getElem?_cons_zero, Option.some.injEq] at h; subst h
    simp
  | a :: l, b :: m, k, x, y, h, hm => by
    simp only [List.length_cons] at hm; subst hm
    simp only [List.getElem?_cons_succ] at h
    simp only [List.cons_append, List.zipWith_cons_cons, zip_snoc f l m m.length x y h rfl]
theorem zip_snoc2 {α β γ : Type} (f : α → β → γ) : ∀ (l : List α) (m : List β) (x : α) (y : β), l.length = m.length → List.zipWith f (l ++ [x]) (m ++ [y]) = List.zipWith f l m ++ [f x y]
  | [], [], _, _, _ => rfl
  | [], b :: m, _, _, h => by simp at h
  | a :: l, [], _, _, h => by simp at h
  | a :: l, b :: m, x, y, h => by simp only [List.cons_append, List.zipWith_cons_cons, zip_snoc2 f l m x y (by simpa using h)]

/-- Rows of which the first are filled. -/
def nfill (z : List PV) (xs : List Ver) (vs : List Value) : List (List PV) := rowsV (xs.map verC) vs ++ List.replicate (xs.length - vs.length) z
section
variable {z : List PV} {xs : List Ver} {vs : List Value} {k : Nat} {x : Ver} {v : Value}
theorem nfill_zero : nfill z xs [] = List.replicate xs.length z := by simp [nfill, rowsV]
theorem nfill_end (h : vs.length = xs.length) : nfill z xs vs = rowsV (xs.map verC) vs := by simp [nfill, h]
theorem rowsV_length (h : vs.length ≤ xs.length) : (rowsV (xs.map verC) vs).length = vs.length := by simp [rowsV]; omega
theorem nfill_length (h : vs.length ≤ xs.length) : (nfill z xs vs).length = xs.length := by simp [nfill, rowsV_length h]; omega
theorem nfill_get (h : vs.length = k) (hk : k < xs.length) : (nfill z xs vs)[k]? = some z := by
  unfold nfill
  rw [List.getElem?_append_right (by rw [rowsV_length (by omega)]; omega), rowsV_length (by omega), List.getElem?_replicate, if_pos (by omega)]
theorem nfill_set (h : vs.length = k) (hx : xs[k]? = some x) : (nfill z xs vs).set k (verC x ++ [.v v]) = nfill z xs (vs ++ [v]) := by
  have hk := lt_of_get hx
  unfold nfill
  rw [List.set_append_right _ _ (by rw [rowsV_length (by omega)]; omega), rowsV_length (by omega)]
  have e1 : rowsV (xs.map verC) (vs ++ [v]) = rowsV (xs.map verC) vs ++ [verC x ++ [.v v]] := zip_snoc _ _ _ k (verC x) v (by simp [hx]) h
  rw [e1, h, Nat.sub_self, List.length_append, List.length_singleton]
  have e2 : xs.length - k = (xs.length - (k + 1)) + 1 := by omega
  rw [e2, List.replicate_succ, List.set_cons_zero, h]
  simp
theorem pool_snoc (h : vs.length = k) (hx : xs[k]? = some x) : poolL vs ((xs.take k).map verI) ++ [(v, some (verI x))] = poolL (vs ++ [v]) ((xs.take (k + 1)).map verI) := by
  have hk := lt_of_get hx
  unfold poolL
  rw [take_snoc hx, List.map_append, List.map_singleton, zip_snoc2 _ _ _ _ _ (by simp; omega)]
end

/-! Marks. -/
def mkC : Int → List Nat → List (List PV)
  | _, [] => []
  | k, n :: l => [.v (.int .i64 k), .v (.int .i64 (k + 1)), .v (str (mText (k + 2)))] :: mkC (k + 3 + ((n * 2 : Nat) : Int)) l
def mkI : Int → List Nat → List (List (List PV))
  | _, [] => []
  | k, n :: l => mkAll [true, false] (k + 3) n :: mkI (k + 3 + ((n * 2 : Nat) : Int)) l
def mkK (k : Int) : List Nat → Int
  | [] => k
  | n :: l => mkK (k + 3 + ((n * 2 : Nat) : Int)) l
theorem mkC_length : ∀ (l : List Nat) (k : Int), (mkC k l).length = l.length
  | [], _ => rfl
  | n :: l, k => by simp [mkC, mkC_length l]
theorem mkI_length : ∀ (l : List Nat) (k : Int), (mkI k l).length = l.length
  | [], _ => rfl
  | n :: l, k => by simp [mkI, mkI_length l]
theorem mkK_snoc : ∀ (l : List Nat) (k : Int) (n : Nat), mkK k (l ++ [n]) = mkK k l + 3 + ((n * 2 : Nat) : Int)
  | [], _, _ => rfl
  | m :: l, k, n => by simp only [List.cons_append, mkK, mkK_snoc l]
theorem mkC_get : ∀ (l : List Nat) (k : Int) (j : Nat), j < l.length → (mkC k l)[j]? = some [.v (.int .i64 (mkK k (l.take j))), .v (.int .i64 (mkK k (l.take j) + 1)), .v (str (mText (mkK k (l.take j) + 2)))]
  | [], _, _, h => by simp at h
  | n :: l, k, 0, _ => by simp [mkC, mkK]
  | n :: l, k, j + 1, h => by
    simp only [mkC, List.getElem?_cons_succ, List.take_succ_cons, mkK]
    exact mkC_get l _ j (by simpa using h)
theorem mkI_get : ∀ (l : List Nat) (k : Int) (j : Nat) (n : Nat), l[j]? = some n → (mkI k l)[j]? = some (mkAll [true, false] (mkK k (l.take j) + 3) n)
  | [], _, _, _, h => by simp at h
  | m :: l, k, 0, n, h => by simp at h; subst h; simp [mkI, mkK]
  | m :: l, k, j + 1, n, h => by
    simp only [mkI, List.getElem?_cons_succ, List.take_succ_cons, mkK]
    exact mkI_get l _ j n (by simpa using h)
def stL (xs : List Ver) : List Nat := xs.map fun x => x.state.length
theorem mkK_le : ∀ (l : List Nat) (k : Int) (B : Nat), (∀ n ∈ l, n ≤ B) → k ≤ mkK k l ∧ mkK k l ≤ k + ((l.length * (3 + B * 2) : Nat) : Int)
  | [], k, B, _ => by simp [mkK]
  | n :: l, k, B, h => by
    have ih := mkK_le l (k + 3 + ((n * 2 : Nat) : Int)) B (fun m hm => h m (by simp [hm]))
    have hn := h n (by simp)
    simp only [mkK, List.length_cons]
    have e : (l.length + 1) * (3 + B * 2) = l.length * (3 + B * 2) + (3 + B * 2) := by rw [Nat.add_mul, Nat.one_mul]
    rw [e]
    omega
/-- The first are marked, the rest are as they were. -/
def mixV {α : Type} (ms os : List α) (j : Nat) : List α := ms.take j ++ os.drop j
section
variable {α : Type} {ms os : List α} {j : Nat} {m o : α}
theorem mixV_zero : mixV ms os 0 = os := by simp [mixV]
theorem mixV_end (h : ms.length = os.length) : mixV ms os os.length = ms := by simp [mixV, ← h]
theorem mixV_length (h : ms.length = os.length) (hj : j ≤ os.length) : (mixV ms os j).length = os.length := by simp [mixV]; omega
theorem mixV_get (h : ms.length = os.length) (ho : os[j]? = some o) : (mixV ms os j)[j]? = some o := by
  have hj := lt_of_get ho
  unfold mixV
  rw [List.getElem?_append_right (by simp; omega)]
  have e : j - (ms.take j).length = 0 := by simp; omega
  rw [e]; simp [ho]
theorem mixV_set (h : ms.length = os.length) (hm : ms[j]? = some m) : (mixV ms os j).set j m = mixV ms os (j + 1) := by
  have hj := lt_of_get hm
  have hx : ms[j] = m := by rw [List.getElem?_eq_getElem hj] at hm; exact Option.some.inj hm
  unfold mixV
  rw [List.set_append_right _ _ (by simp; omega)]
  have e : j - (ms.take j).length = 0 := by simp; omega
  rw [e, List.drop_eq_getElem_cons (show j < os.length by omega), List.set_cons_zero, take_snoc hm]
  simp
end
theorem zip_set {α β γ : Type} (f : α → β → γ) : ∀ (l : List α) (m : List β) (j : Nat) (x : α) (y : β), m[j]? = some y → (List.zipWith f l m).set j (f x y) = List.zipWith f (l.set j x) m
  | [], _, _, _, _, _ => by simp
  | a :: l, [], j, x, y, h => by simp at h
  | a :: l, b :: m, 0, x, y, h => by simp at h; subst h; simp
  | a :: l, b :: m, j + 1, x, y, h => by simp only [List.zipWith_cons_cons, List.set_cons_succ, zip_set f l m j x y (by simpa using h)]
theorem zip_set2 {α β γ : Type} (f : α → β → γ) : ∀ (l : List α) (m : List β) (j : Nat) (x : α) (y : β), l[j]? = some x → (List.zipWith f l m).set j (f x y) = List.zipWith f l (m.set j y)
  | [], _, _, _, _, h => by simp at h
  | a :: l, [], j, x, y, h => by simp
  | a :: l, b :: m, 0, x, y, h => by simp at h; subst h; simp
  | a :: l, b :: m, j + 1, x, y, h => by simp only [List.zipWith_cons_cons, List.set_cons_succ, zip_set2 f l m j x y (by simpa using h)]
def markC (k0 : Int) (xs : List Ver) (j : Nat) : List (List PV) := mixV (mkC k0 (stL xs)) (xs.map verC) j
def markI (k0 : Int) (xs : List Ver) (j : Nat) : List (List (List PV)) := mixV (mkI k0 (stL xs)) (xs.map verI) j
def markK (k0 : Int) (xs : List Ver) (j : Nat) : Int := mkK k0 (stL (xs.take j))
section
variable {k0 : Int} {xs : List Ver} {vs : List Value} {k : Nat} {x : Ver} {v : Value}
theorem stL_len (xs : List Ver) : (stL xs).length = xs.length := by simp [stL]
theorem markC_len0 : (mkC k0 (stL xs)).length = (xs.map verC).length := by rw [mkC_length, stL_len, List.length_map]
theorem markI_len0 : (mkI k0 (stL xs)).length = (xs.map verI).length := by rw [mkI_length, stL_len, List.length_map]
theorem markC_len (hk : k ≤ xs.length) : (markC k0 xs k).length = xs.length := by unfold markC; rw [mixV_length markC_len0 (by simpa using hk), List.length_map]
theorem markRows_len (hv : vs.length = xs.length) (hk : k ≤ xs.length) : (rowsV (markC k0 xs k) vs).length = xs.length := by simp [rowsV, markC_len hk, hv]
theorem markRows_get (hx : xs[k]? = some x) (hv : vs[k]? = some v) : (rowsV (markC k0 xs k) vs)[k]? = some (verC x ++ [.v v]) := by
  have : (markC k0 xs k)[k]? = some (verC x) := mixV_get markC_len0 (by simp [hx])
  simp [rowsV, List.getElem?_zipWith, this, hv]
theorem markRows_set (hx : xs[k]? = some x) (hv : vs[k]? = some v) : (rowsV (markC k0 xs k) vs).set k ([.v (.int .i64 (markK k0 xs k)), .v (.int .i64 (markK k0 xs k + 1)), .v (str (mText (markK k0 xs k + 2)))] ++ [.v v]) = rowsV (markC k0 xs (k + 1)) vs := by
  have hk := lt_of_get hx
  unfold rowsV
  rw [zip_set (fun (c : List PV) (v : Value) => c ++ [PV.v v]) _ _ _ _ _ hv]
  congr 1
  refine mixV_set markC_len0 ?_
  rw [mkC_get _ _ _ (by rw [stL_len]; exact hk)]
  simp only [markK, stL, List.map_take]
theorem markPool_get (hx : xs[k]? = some x) (hv : vs[k]? = some v) : (poolL vs (markI k0 xs k))[k]? = some (v, some (verI x)) := by
  have : (markI k0 xs k)[k]? = some (verI x) := mixV_get markI_len0 (by simp [hx])
  simp [poolL, List.getElem?_zipWith, this, hv]
theorem pool_get_set {l : List (Value × Option (List (List PV)))} (hk : k < l.length) {y : Value × Option (List (List PV))} : (l.set k y)[k]? = some y := by simp [hk]
theorem markPool_len (hv : vs.length = xs.length) (hk : k ≤ xs.length) : (poolL vs (markI k0 xs k)).length = xs.length := by
  have : (markI k0 xs k).length = xs.length := by unfold markI; rw [mixV_length markI_len0 (by simpa using hk), List.length_map]
  simp [poolL, this, hv]
theorem markPool_set (hx : xs[k]? = some x) (hv : vs[k]? = some v) : ((poolL vs (markI k0 xs k)).set k (v, none)).set k (v, some (mkAll [true, false] (markK k0 xs k + 3) x.state.length)) = poolL vs (markI k0 xs (k + 1)) := by
  have hk := lt_of_get hx
  rw [List.set_set]
  unfold poolL
  rw [zip_set2 (fun (v : Value) (r : List (List PV)) => (v, some r)) _ _ _ _ _ hv]
  congr 1
  refine mixV_set markI_len0 ?_
  rw [mkI_get _ _ k x.state.length (by simp [stL, hx])]
  simp only [markK, stL, List.map_take]
theorem markK_zero : markK k0 xs 0 = k0 := by simp [markK, stL, mkK]
theorem markK_succ (hx : xs[k]? = some x) : markK k0 xs (k + 1) = markK k0 xs k + 3 + ((x.state.length * 2 : Nat) : Int) := by
  unfold markK stL
  rw [take_snoc hx, List.map_append, List.map_singleton, mkK_snoc]
theorem markK_lim (hg : VersGood xs) : k0 ≤ markK k0 xs k ∧ markK k0 xs k ≤ k0 + 2199026401280 := by
  have h := mkK_le (stL (xs.take k)) k0 1048576 (fun n hn => by
    obtain ⟨x, hx, rfl⟩ := List.mem_map.1 hn
    exact (hg.2 x (List.mem_of_mem_take hx)).2.1)
  have hl : (stL (xs.take k)).length ≤ 1048576 := by rw [stL_len, List.length_take]; have := hg.1; omega
  refine ⟨h.1, Int.le_trans h.2 ?_⟩
  have := Nat.mul_le_mul_right (3 + 1048576 * 2) hl
  omega
theorem markC_zero : markC k0 xs 0 = xs.map verC := mixV_zero
theorem markI_zero : markI k0 xs 0 = xs.map verI := mixV_zero
theorem markC_end : markC k0 xs xs.length = mkC k0 (stL xs) := by have := mixV_end (markC_len0 (k0 := k0) (xs := xs)); rwa [List.length_map] at this
theorem markI_end : markI k0 xs xs.length = mkI k0 (stL xs) := by have := mixV_end (markI_len0 (k0 := k0) (xs := xs)); rwa [List.length_map] at this
end
/-- What marked versions show. -/
def mkV (k0 : Int) (ns : List Nat) : List (List PV) := nestL 2 (mkC k0 ns) (mkI k0 ns)
theorem mkK_nonneg : ∀ (l : List Nat) (k : Int), 0 ≤ k → 0 ≤ mkK k l
  | [], _, h => h
  | n :: l, k, h => mkK_nonneg l _ (by omega)
end Go.V
