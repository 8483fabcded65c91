/- An order by insertion; medians. -/
import Derived.Test.YtdpanmnnfamfmaaD11
import Derived.Test.YtdpanmnnfamfmaaD3
set_option linter.all false
namespace Go.V
open Go
def keyK (ks : List Int) (y : Int) : Int := (ks[y.toNat]?).getD 0
def posK (ks : List Int) (x : Int) (o : List Int) : Nat → Nat
  | 0 => 0
  | j + 1 => match o[j]? with
    | some y => if x < keyK ks y then posK ks x o j else j + 1
    | none => j + 1
def ordK (ks : List Int) : Nat → List Int
  | 0 => []
  | k + 1 => (ordK ks k).take (posK ks (keyK ks k) (ordK ks k) k) ++ (k : Int) :: (ordK ks k).drop (posK ks (keyK ks k) (ordK ks k) k)
theorem ordK_length (ks : List Int) : ∀ k, (ordK ks k).length = k
  | 0 => rfl
  | k + 1 => by
    have := ordK_length ks k
    simp only [ordK, List.length_append, List.length_cons, List.length_take, List.length_drop]; omega
section
variable {ks o : List Int} {x y : Int} {j k : Nat}
theorem posK_go (hy : o[j]? = some y) (h : x < keyK ks y) : posK ks x o (j + 1) = posK ks x o j := by
  simp only [posK, hy, if_pos h]
theorem posK_stop (hy : o[j]? = some y) (h : ¬ x < keyK ks y) : posK ks x o (j + 1) = j + 1 := by
  simp only [posK, hy, if_neg h]
theorem ordK_get : ∀ {n : Nat}, ∀ y ∈ ordK ks n, ∃ m : Nat, y = (m : Int) ∧ m < n
  | 0, y, h => by cases h
  | n + 1, y, h => by
    simp only [ordK, List.mem_append, List.mem_cons] at h
    rcases h with h | h | h
    · obtain ⟨m, h1, h2⟩ := ordK_get y (List.mem_of_mem_take h); exact ⟨m, h1, by omega⟩
    · exact ⟨n, h, by omega⟩
    · obtain ⟨m, h1, h2⟩ := ordK_get y (List.mem_of_mem_drop h); exact ⟨m, h1, by omega⟩
theorem ordK_next (h : posK ks (keyK ks k) (ordK ks k) k = j) : (((ordK ks k).take j).map encI ++ [encI (k : Int)]) ++ ((ordK ks k).drop j).map encI = (ordK ks (k + 1)).map encI := by
  subst h; simp [ordK]
theorem keyK_get (h : ks[k]? = some x) : keyK ks (k : Int) = x := by simp [keyK, h]
/-- Where one stops: what is behind is greater, what is just before is not. -/
theorem posK_spec : ∀ (j : Nat), j ≤ o.length → posK ks x o j ≤ j ∧ (∀ (i : Nat) y, posK ks x o j ≤ i → i < j → o[i]? = some y → x < keyK ks y) ∧ (∀ (i : Nat) y, i + 1 = posK ks x o j → o[i]? = some y → keyK ks y ≤ x)
  | 0, _ => ⟨Nat.le_refl _, fun i y h1 h2 => by omega, fun i y h => by simp [posK] at h⟩
  | j + 1, hj => by
    obtain ⟨z, hz⟩ := get_some (xs := o) (k := j) (by omega)
    by_cases h : x < keyK ks z
    · obtain ⟨h1, h2, h3⟩ := posK_spec j (by omega)
      rw [posK_go hz h]
      refine ⟨by omega, fun i y h4 h5 h6 => ?_, h3⟩
      by_cases e : i = j
      · subst e; rw [hz] at h6; obtain rfl := Option.some.inj h6; exact h
      · exact h2 i y h4 (by omega) h6
    · rw [posK_stop hz h]
      refine ⟨Nat.le_refl _, fun i y h4 h5 => by omega, fun i y h4 h5 => ?_⟩
      obtain rfl : i = j := by omega
      rw [hz] at h5; obtain rfl := Option.some.inj h5; omega
theorem sorted_insert {vs : List Int} {p : Nat} (hs : vs.Pairwise (fun a b => a ≤ b)) (h1 : ∀ (i : Nat) v, p ≤ i → vs[i]? = some v → x ≤ v) (h2 : ∀ (i : Nat) v, i + 1 = p → vs[i]? = some v → v ≤ x) (hp : p ≤ vs.length) :
    (vs.take p ++ x :: vs.drop p).Pairwise (fun a b => a ≤ b) := by
  have ht : ∀ a ∈ vs.take p, a ≤ x := by
    intro a ha
    obtain ⟨i, hi⟩ := List.getElem?_of_mem ha
    have hil := lt_of_get hi
    rw [List.length_take] at hil
    rw [List.getElem?_take_of_lt (by omega)] at hi
    obtain ⟨z, hz⟩ := get_some (xs := vs) (k := p - 1) (by omega)
    have hzx := h2 (p - 1) z (by omega) hz
    by_cases e : i = p - 1
    · subst e; rw [hz] at hi; obtain rfl := Option.some.inj hi; exact hzx
    · obtain ⟨l1, e1⟩ := List.getElem?_eq_some_iff.1 hi
      obtain ⟨l2, e2⟩ := List.getElem?_eq_some_iff.1 hz
      have := List.pairwise_iff_getElem.1 hs i (p - 1) l1 l2 (by omega)
      rw [e1, e2] at this; omega
  have hd : ∀ b ∈ vs.drop p, x ≤ b := by
    intro b hb
    obtain ⟨i, hi⟩ := List.getElem?_of_mem hb
    rw [List.getElem?_drop] at hi
    exact h1 (p + i) b (by omega) hi
  rw [List.pairwise_append, List.pairwise_cons]
  refine ⟨hs.sublist (List.take_sublist _ _), ⟨hd, hs.sublist (List.drop_sublist _ _)⟩, fun a ha b hb => ?_⟩
  rcases List.mem_cons.1 hb with rfl | hb
  · exact ht a ha
  · exact Int.le_trans (ht a ha) (hd b hb)
theorem ord_sorted : ∀ (k : Nat), k ≤ ks.length → ((ordK ks k).map (keyK ks)).Pairwise (fun a b => a ≤ b) ∧ ((ordK ks k).map (keyK ks)).Perm (ks.take k)
  | 0, _ => by simp [ordK]
  | k + 1, hk => by
    obtain ⟨h1, h2⟩ := ord_sorted k (by omega)
    obtain ⟨x, hx⟩ := get_some (xs := ks) (k := k) (by omega)
    have hkx := keyK_get hx
    have hl := ordK_length ks k
    obtain ⟨q1, q2, q3⟩ := posK_spec (ks := ks) (x := x) (o := ordK ks k) k (by omega)
    simp only [ordK]
    rw [hkx, List.map_append, List.map_cons, List.map_take, List.map_drop, hkx]
    refine ⟨sorted_insert h1 (fun i v h3 h4 => ?_) (fun i v h3 h4 => ?_) (by rw [List.length_map, hl]; exact q1), ?_⟩
    · rw [List.getElem?_map] at h4
      cases hy : (ordK ks k)[i]? with
      | none => rw [hy] at h4; cases h4
      | some y =>
        rw [hy] at h4; obtain rfl := Option.some.inj h4
        have := q2 i y h3 (by have := lt_of_get hy; omega) hy; omega
    · rw [List.getElem?_map] at h4
      cases hy : (ordK ks k)[i]? with
      | none => rw [hy] at h4; cases h4
      | some y =>
        rw [hy] at h4; obtain rfl := Option.some.inj h4
        exact q3 i y h3 hy
    · rw [take_snoc hx]
      refine List.Perm.trans List.perm_middle ?_
      rw [List.take_append_drop]
      exact (List.Perm.cons x h2).trans (List.perm_append_singleton x _).symm
def sortZ (zs : List Int) : List Int := zs.mergeSort fun x y => decide (x ≤ y)
theorem sortZ_sorted (zs : List Int) : (sortZ zs).Pairwise (fun a b => a ≤ b) := by
  have := List.pairwise_mergeSort (le := fun x y : Int => decide (x ≤ y)) (fun a b c h1 h2 => by simp at *; omega) (fun a b => by simp; omega) zs
  exact this.imp (fun h => by simpa using h)
theorem sort_unique {as bs : List Int} (ha : as.Pairwise (fun a b => a ≤ b)) (hb : bs.Pairwise (fun a b => a ≤ b)) (h : as.Perm bs) : as = bs :=
  h.eq_of_pairwise (fun a b _ _ h1 h2 => by omega) ha hb
theorem ord_sort (ks : List Int) : (ordK ks ks.length).map (keyK ks) = sortZ ks := by
  obtain ⟨h1, h2⟩ := ord_sorted (ks := ks) ks.length (Nat.le_refl _)
  rw [List.take_length] at h2
  exact sort_unique h1 (sortZ_sorted ks) (h2.trans (List.mergeSort_perm _ _).symm)
theorem sortZ_len (zs : List Int) : (sortZ zs).length = zs.length := by simp [sortZ]
theorem sortZ_mem {zs : List Int} {v : Int} : v ∈ sortZ zs ↔ v ∈ zs := by unfold sortZ; exact List.mem_mergeSort
/-- The value that is in the middle; its first place. -/
def medV (ks : List Int) : Int := ((sortZ ks)[(ks.length - 1) / 2]?).getD 0
theorem med_get {ks : List Int} (h : ks ≠ []) : (sortZ ks)[(ks.length - 1) / 2]? = some (medV ks) := by
  have hl := List.length_pos_iff.2 h
  obtain ⟨v, hv⟩ := get_some (xs := sortZ ks) (k := (ks.length - 1) / 2) (by rw [sortZ_len]; omega)
  rw [hv]; simp [medV, hv]
theorem med_mem {ks : List Int} (h : ks ≠ []) : medV ks ∈ ks := sortZ_mem.1 (List.mem_of_getElem? (med_get h))
theorem ord_med {ks : List Int} (h : ks ≠ []) {m : Nat} (hm : (ordK ks ks.length)[(ks.length - 1) / 2]? = some (m : Int)) {v : Int} (hv : ks[m]? = some v) : v = medV ks := by
  have h1 := ord_sort ks
  have h2 := med_get h
  rw [← h1, List.getElem?_map, hm] at h2
  simp only [Option.map_some, Option.some.injEq] at h2
  rw [keyK_get hv] at h2; exact h2
end
theorem med_idx {n : Nat} (h : n ≠ 0) : ((n : Int) - 1).tdiv 2 = (((n - 1) / 2 : Nat) : Int) := by
  rw [Int.tdiv_eq_ediv_of_nonneg (by omega)]; omega
def offs (xs : List Mach) : List Int := xs.map Mach.offset
theorem offs_get {xs : List Mach} {k : Nat} {x : Mach} (h : xs[k]? = some x) : (offs xs)[k]? = some x.offset := by unfold offs; rw [List.getElem?_map, h]; rfl
theorem offs_len (xs : List Mach) : (offs xs).length = xs.length := by simp [offs]
def medianM (xs : List Mach) : Int × Int := if askMachines xs = 0 then (idxOf (fun x => decide (medV (offs xs) = x)) (offs xs), 0) else (0, askMachines xs)
theorem med_any {xs : List Mach} (hne : offs xs ≠ []) (h : anyTo (fun x => decide (medV (offs xs) = x)) (offs xs) xs.length = false) : False := by
  rw [← offs_len, anyTo_all] at h
  have := List.any_eq_false.1 h _ (med_mem hne)
  simp at this
end Go.V
