/- Versions that are added. -/
import Derived.Test.YtdgjlkdcklfieaaDoorD15
import Derived.Test.YtdgjlkdcklfieaaDoorV18
set_option linter.all false
namespace Go.V
open Go

def newVer (xs : List Ver) (p : Int) (memo : List UInt8) (st : List NV) : Ver := ⟨((xs.map encVer).length : Int) + 1, p, memo, st⟩
def addV (xs : List Ver) (p : Int) (memo : List UInt8) (st : List NV) : List Ver × Int := if xs.length = 32 then ([], 5) else (xs ++ [newVer xs p memo st], 0)
def commitState (xs : List Ver) (p : Int) (memo : List UInt8) (st : List NV) : List Ver × Int :=
  if okVers xs && okMemo memo && okState st then (if decide (0 ≤ p) && decide (p ≤ (xs.length : Int)) then addV xs p memo st else ([], 3)) else ([], 1)
theorem nestE {vt st : Nat} {r r' : List Ver} (h : r = r') : Res.cust (nestC vt 4 st 2 (r.map verC) (r.map verI) (r.map encVer) ver_nest) = .cust (nestC vt 4 st 2 (r'.map verC) (r'.map verI) (r'.map encVer) ver_nest) := by
  subst h; rfl
theorem add_good {xs : List Ver} {p : Int} {memo : List UInt8} {st : List NV} (hg : VersGood xs) (h0 : xs.length ≤ 40) (hm : memo.length ≤ 1048576) (hs : st.length ≤ 1048576) (hn : ∀ s ∈ st, s.name.length ≤ 1048576) : VersGood (addV xs p memo st).1 := by
  unfold addV
  split
  · exact ⟨by simp, by simp⟩
  · refine ⟨by simp; omega, fun v hv => ?_⟩
    rcases List.mem_append.1 hv with hv | hv
    · exact hg.2 v hv
    · simp only [List.mem_singleton] at hv; subst hv
      exact ⟨hm, hs, hn⟩
theorem commit_good {xs : List Ver} {p : Int} {memo : List UInt8} {st : List NV} (hg : VersGood xs) (hm : memo.length ≤ 1048576) (hs : st.length ≤ 1048576) (hn : ∀ s ∈ st, s.name.length ≤ 1048576) : VersGood (commitState xs p memo st).1 := by
  unfold commitState
  split
  · next h =>
    split
    · simp only [Bool.and_eq_true] at h
      have := vers_len h.1.1
      exact add_good hg (by omega) hm hs hn
    · exact ⟨by simp, by simp⟩
  · exact ⟨by simp, by simp⟩
section
variable {xs : List Ver} {vs : List Value} {k : Nat} {x : Ver} {v : Value} {y : Ver}
theorem rows_snoc (h : vs.length = k) (hx : xs[k]? = some x) : rowsV ((xs.take k).map verC) vs ++ [verC x ++ [.v v]] = rowsV ((xs.take (k + 1)).map verC) (vs ++ [v]) := by
  have hk := lt_of_get hx
  unfold rowsV
  rw [take_snoc hx, List.map_append, List.map_singleton, zip_snoc2 (fun (c : List PV) (v : Value) => c ++ [PV.v v]) _ _ _ _ (by simp; omega)]
theorem rowsT_len (h : vs.length = k) (hk : k ≤ xs.length) : (rowsV ((xs.take k).map verC) vs).length = k := by simp [rowsV]; omega
theorem rows_add (h : vs.length = xs.length) : rowsV (xs.map verC) vs ++ [verC y ++ [.v v]] = rowsV ((xs ++ [y]).map verC) (vs ++ [v]) := by
  unfold rowsV
  rw [List.map_append, List.map_singleton, zip_snoc2 (fun (c : List PV) (v : Value) => c ++ [PV.v v]) _ _ _ _ (by simp [h])]
theorem pool_add (h : vs.length = xs.length) : poolL vs (xs.map verI) ++ [(v, some (verI y))] = poolL (vs ++ [v]) ((xs ++ [y]).map verI) := by
  unfold poolL
  rw [List.map_append, List.map_singleton, zip_snoc2 (fun (v : Value) (r : List (List PV)) => (v, some r)) _ _ _ _ (by simp [h])]
theorem rowsV_len (h : vs.length = xs.length) : (rowsV (xs.map verC) vs).length = xs.length := by simp [rowsV, h]
end
/-! What marked versions show. -/
theorem mkV_length {k0 : Int} {ns : List Nat} : (mkV k0 ns).length = ns.length := by simp [mkV, nestL, mkC_length, mkI_length]
theorem mkV_get {k0 : Int} {ns : List Nat} {k n : Nat} (h : ns[k]? = some n) : (mkV k0 ns)[k]? = some [.v (.int .i64 (mkK k0 (ns.take k))), .v (.int .i64 (mkK k0 (ns.take k) + 1)), .v (str (mText (mkK k0 (ns.take k) + 2))), .sl 2 (mkAll [true, false] (mkK k0 (ns.take k) + 3) n)] := by
  have hk := lt_of_get h
  unfold mkV nestL
  rw [List.getElem?_zipWith, mkC_get ns k0 k hk, mkI_get ns k0 k n h]
  rfl
theorem mkK_step {k0 : Int} {ns : List Nat} {k n : Nat} (h : ns[k]? = some n) : mkK k0 (ns.take (k + 1)) = mkK k0 (ns.take k) + 3 + ((n * 2 : Nat) : Int) := by
  rw [take_snoc h, mkK_snoc]
theorem mkK_bound {k0 : Int} {ns : List Nat} (hl : ns.length ≤ 1048576) (hn : ∀ n ∈ ns, n ≤ 1048576) (k : Nat) : k0 ≤ mkK k0 (ns.take k) ∧ mkK k0 (ns.take k) ≤ k0 + 2199026401280 := by
  have h := mkK_le (ns.take k) k0 1048576 (fun n h => hn n (List.mem_of_mem_take h))
  have hl2 : (ns.take k).length ≤ 1048576 := by rw [List.length_take]; omega
  refine ⟨h.1, Int.le_trans h.2 ?_⟩
  have := Nat.mul_le_mul_right (3 + 1048576 * 2) hl2
  omega
theorem stL_good {xs : List Ver} (hg : VersGood xs) : (stL xs).length ≤ 1048576 ∧ ∀ n ∈ stL xs, n ≤ 1048576 := by
  refine ⟨by rw [stL_len]; exact hg.1, fun n hn => ?_⟩
  obtain ⟨x, hx, rfl⟩ := List.mem_map.1 hn
  exact (hg.2 x hx).2.1
theorem mkK_all {k0 : Int} {xs : List Ver} (hg : VersGood xs) : k0 ≤ mkK k0 (stL xs) ∧ mkK k0 (stL xs) ≤ k0 + 2199026401280 := by
  have h := mkK_bound (k0 := k0) (stL_good hg).1 (stL_good hg).2 (stL xs).length
  rwa [List.take_length] at h
theorem vers_flat {vt st : Nat} {r : List Ver} : Res.Flat (.cust (nestC vt 4 st 2 (r.map verC) (r.map verI) (r.map encVer) ver_nest)) := by
  refine nest_flat (fun c hc => ?_) (fun rows hr q hq => ?_)
  · obtain ⟨x, _, rfl⟩ := List.mem_map.1 hc; exact ⟨trivial, trivial, trivial, trivial⟩
  · obtain ⟨x, _, rfl⟩ := List.mem_map.1 hr
    obtain ⟨y, _, rfl⟩ := List.mem_map.1 hq; exact ⟨trivial, trivial, trivial⟩
end Go.V
