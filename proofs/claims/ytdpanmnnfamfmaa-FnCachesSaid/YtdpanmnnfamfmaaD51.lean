/- The law of caches: files that are drawn, uses that are drawn. -/
import Derived.Test.YtdpanmnnfamfmaaD50
set_option linter.all false
namespace Go.V
open Go
/-- The first k files made as big as one another. -/
def setK (ms : List NV) (b : Bool) (k : Nat) : List NV := if b then (ms.take k).map (fun m => ⟨m.name, 5⟩) ++ ms.drop k else ms
section
variable {ms ml : List NV} {b : Bool} {k : Nat} {x : NV}
theorem setK_len : (setK ms b k).length = ms.length := by
  unfold setK; split
  · rw [List.length_append, List.length_map, ← List.length_append, List.take_append_drop]
  · rfl
theorem setK_zero : setK ms b 0 = ms := by unfold setK; split <;> simp
theorem setK_get (hk : k < ms.length) : (setK ms b k)[k]? = ms[k]? := by
  unfold setK; split
  · rw [List.getElem?_append_right (by simp; omega), List.getElem?_drop]
    simp only [List.length_map, List.length_take]
    rw [show k + (k - min k ms.length) = k by omega]
  · rfl
theorem setK_T (hb : b = true) (hx : ms[k]? = some x) : ((setK ms b k).map encNV).set k (encNV ⟨x.name, 5⟩) = (setK ms b (k + 1)).map encNV := by
  subst hb
  have hk := lt_of_get hx
  rw [← List.map_set]
  congr 1
  unfold setK
  rw [if_pos rfl, if_pos rfl, take_snoc hx, List.set_append_right _ _ (by simp; omega)]
  simp only [List.length_map, List.length_take, List.map_append, List.map_cons, List.map_nil, List.append_assoc, List.singleton_append]
  rw [show k - min k ms.length = 0 by omega, List.drop_eq_getElem_cons hk]
  rfl
theorem setK_F (hb : b = false) : setK ms b k = setK ms b (k + 1) := by subst hb; rfl
theorem setK_drawn (h : DrawnM ms) : DrawnM (setK ms b ms.length) := by
  unfold setK
  split
  · rw [List.take_length, List.drop_length, List.append_nil]
    refine ⟨by rw [List.length_map]; exact h.1, fun k x hx => ?_⟩
    rw [List.getElem?_map] at hx
    cases hy : ms[k]? with
    | none => rw [hy] at hx; cases hx
    | some y =>
      rw [hy] at hx
      obtain rfl := Option.some.inj hx
      exact ⟨(h.2 k y hy).1, by show (1 : Int) ≤ 5; omega, by show (5 : Int) ≤ 50; omega⟩
  · exact h
theorem setK_five (hb : b = true) : ∀ x ∈ setK ms b ms.length, x.val = 5 := by
  subst hb
  unfold setK
  rw [if_pos rfl, List.take_length, List.drop_length, List.append_nil]
  intro x hx
  obtain ⟨y, _, rfl⟩ := List.mem_map.1 hx
  rfl
theorem lookup_of {p : Int → Prop} (h : ∀ y ∈ ms, p y.val) (hx : x ∈ ms) : p (lookup ms x.name) := by
  unfold lookup
  cases hf : ms.find? (fun y => decide (y.name = x.name)) with
  | none => have := List.find?_eq_none.1 hf x hx; simp at this
  | some y => exact h y (List.mem_of_find?_eq_some hf)
/-- The uses that are drawn. -/
def nameAt (ml : List NV) (more : List UInt8) (i : Nat) : List UInt8 := ((ml[(r8At more (2 + (i : Int)) ml.length).toNat]?).map NV.name).getD []
def usesK (ml : List NV) (more : List UInt8) (k : Nat) : List (List UInt8) := (List.range k).map (nameAt ml more)
theorem usesK_len {more : List UInt8} : (usesK ml more k).length = k := by simp [usesK]
theorem usesK_succ {more : List UInt8} {j : Nat} (hj : r8At more (2 + (k : Int)) ml.length = (j : Int)) (hx : ml[j]? = some x) : usesK ml more (k + 1) = usesK ml more k ++ [x.name] := by
  unfold usesK
  rw [List.range_succ, List.map_append]
  simp only [List.map_cons, List.map_nil]
  unfold nameAt
  rw [hj, Int.toNat_natCast, hx]
  rfl
theorem usesK_mem {more : List UInt8} (hl : 0 < ml.length) : ∀ y ∈ usesK ml more k, ∃ x ∈ ml, x.name = y := by
  intro y hy
  obtain ⟨i, _, rfl⟩ := List.mem_map.1 hy
  have hr := r8At_lim (l := more) (k := 2 + (i : Int)) (n := ml.length) (by omega)
  obtain ⟨x, hx⟩ := get_some (xs := ml) (k := (r8At more (2 + (i : Int)) ml.length).toNat) (by omega)
  exact ⟨x, List.mem_of_getElem? hx, by unfold nameAt; rw [hx]; rfl⟩
theorem cacheL_of {more : List UInt8} {cap : Int} (h : DrawnM ml) (hc : 1 ≤ cap) (hk : k ≤ 20) (hl : k = 0 ∨ 0 < ml.length) : CacheL ml (usesK ml more k) cap := by
  refine ⟨drawn_ok h, hc, fun y hy => ?_, by rw [usesK_len]; exact hk⟩
  rcases hl with rfl | hl
  · simp [usesK] at hy
  · obtain ⟨x, hx, rfl⟩ := usesK_mem hl y hy
    refine lookup_of (p := fun v => v ≠ 0) (fun z hz => ?_) hx
    obtain ⟨i, hi⟩ := List.getElem?_of_mem hz
    have := (h.2 i z hi).2.1
    omega
theorem usesK_five {more : List UInt8} (h : ∀ x ∈ ml, x.val = 5) (hl : k = 0 ∨ 0 < ml.length) : ∀ y ∈ usesK ml more k, lookup ml y = 5 := by
  intro y hy
  rcases hl with rfl | hl
  · simp [usesK] at hy
  · obtain ⟨x, hx, rfl⟩ := usesK_mem hl y hy
    exact lookup_of (p := fun v => v = 5) h hx
end
/-- How often each policy misses. -/
def missL (f : Int → Int) (k : Nat) : List Int := (List.range k).map (fun j : Nat => f ((j : Int) + 1))
theorem missL_succ (f : Int → Int) (k : Nat) : missL f (k + 1) = missL f k ++ [f ((k : Int) + 1)] := by
  unfold missL; rw [List.range_succ, List.map_append]; rfl
theorem missL_len (f : Int → Int) (k : Nat) : (missL f k).length = k := by simp [missL]
theorem best_facts (f : Int → Int) : ∃ n : Nat, (bestP f 3).1 = (n : Int) + 1 ∧ n < 3 ∧ (bestP f 3).2 = f ((n : Int) + 1) ∧ (missL f 3)[n]? = some (f ((n : Int) + 1)) ∧ (bestP f 3).2 ≤ f 1 ∧ (bestP f 3).2 ≤ f 2 ∧ (bestP f 3).2 ≤ f 3 := by
  rcases bestP_spec f 3 with ⟨h, _⟩ | ⟨h1, h2, h3, h4⟩
  · omega
  · obtain ⟨n, hn⟩ : ∃ n : Nat, (bestP f 3).1 = (n : Int) + 1 := ⟨((bestP f 3).1 - 1).toNat, by omega⟩
    refine ⟨n, hn, by omega, by rw [h3, hn], ?_, h4 0 (by omega), h4 1 (by omega), h4 2 (by omega)⟩
    unfold missL
    rw [List.getElem?_map, List.getElem?_range (by omega)]
    rfl
end Go.V
