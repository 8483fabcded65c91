/- Names in order: sorted and compacted, or inserted one by one; states that are merged. -/
import Derived.Test.YtdgjlkdcklfieaaDoorD14
import Derived.Test.YtdgjlkdcklfieaaDoorV24
import Derived.Sort.Walk0
set_option linter.all false
namespace Go.V
open Go
theorem bytesLess_tri : ∀ {a b : List UInt8}, Op.bytesLess a b = false → Op.bytesLess b a = false → a = b
  | [], [], _, _ => rfl
  | [], _ :: _, h, _ => by simp [Op.bytesLess] at h
  | _ :: _, [], _, h => by simp [Op.bytesLess] at h
  | x :: a, y :: b, h1, h2 => by
    simp only [Op.bytesLess, Bool.or_eq_false_iff, Bool.and_eq_false_iff, decide_eq_false_iff_not, beq_eq_false_iff_ne] at h1 h2
    have hxy : x = y := by
      apply UInt8.toNat_inj.1
      have h3 := h1.1
      have h4 := h2.1
      rw [UInt8.lt_iff_toNat_lt] at h3 h4
      omega
    subst hxy
    have h5 := h1.2.resolve_left (fun h => h rfl)
    have h6 := h2.2.resolve_left (fun h => h rfl)
    rw [bytesLess_tri h5 h6]
theorem bytesLess_asymm {a b : List UInt8} (h : Op.bytesLess a b = true) : Op.bytesLess b a = false := by
  cases h2 : Op.bytesLess b a with
  | false => rfl
  | true => have := bytesLess_trans h h2; rw [bytesLess_irrefl] at this; cases this
abbrev Names := List (List UInt8)
def Rises (l : Names) : Prop := l.Pairwise (fun x y => Op.bytesLess x y = true)
theorem rises_ext : ∀ {l l' : Names}, Rises l → Rises l' → (∀ x, x ∈ l ↔ x ∈ l') → l = l'
  | [], [], _, _, _ => rfl
  | [], y :: l', _, _, h => by have := (h y).2 (by simp); cases this
  | x :: l, [], _, _, h => by have := (h x).1 (by simp); cases this
  | x :: l, y :: l', h1, h2, h => by
    unfold Rises at h1 h2
    rw [List.pairwise_cons] at h1 h2
    have hxy : x = y := by
      rcases List.mem_cons.1 ((h x).1 (by simp)) with e | e
      · exact e
      · rcases List.mem_cons.1 ((h y).2 (by simp)) with e2 | e2
        · exact e2.symm
        · have := bytesLess_asymm (h1.1 y e2)
          rw [h2.1 x e] at this; cases this
    subst hxy
    have hno : ∀ {m : Names}, (∀ z ∈ m, Op.bytesLess x z = true) → x ∉ m := fun hm hx => by have := hm x hx; rw [bytesLess_irrefl] at this; cases this
    congr 1
    refine rises_ext h1.2 h2.2 (fun z => ⟨fun hz => ?_, fun hz => ?_⟩)
    · rcases List.mem_cons.1 ((h z).1 (by simp [hz])) with e | e
      · subst e; exact absurd hz (hno h1.1)
      · exact e
    · rcases List.mem_cons.1 ((h z).2 (by simp [hz])) with e | e
      · subst e; exact absurd hz (hno h2.1)
      · exact e
theorem le_less (x y : List UInt8) : decide (x ≤ y) = !Op.bytesLess y x := by
  rw [Go.Proofs.bytesLess_eq, ← decide_not]
  exact decide_eq_decide.2 Iff.rfl
theorem sort_pair (ss : Names) : (sortL ss).Pairwise (fun x y => Op.bytesLess y x = false) := by
  have h := List.pairwise_mergeSort (le := fun x y : List UInt8 => decide (x ≤ y)) (fun a b c h1 h2 => by
    simp only [le_less, Bool.not_eq_true'] at h1 h2 ⊢
    cases h3 : Op.bytesLess c a with
    | false => rfl
    | true =>
      cases h4 : Op.bytesLess a b with
      | true => rw [bytesLess_trans h3 h4] at h2; cases h2
      | false => rw [bytesLess_tri h4 h1] at h3; rw [h3] at h2; cases h2) (fun a b => by
    simp only [le_less]
    cases h : Op.bytesLess b a with
    | false => rfl
    | true => rw [bytesLess_asymm h]; rfl) ss
  exact h.imp (fun {a b} h => by simpa [le_less] using h)
theorem sort_mem {ss : Names} {x : List UInt8} : x ∈ sortL ss ↔ x ∈ ss := by unfold sortL; exact List.mem_mergeSort
theorem compact_to {zs : Names} (hz : zs.Pairwise (fun x y => Op.bytesLess y x = false)) : ∀ m, m ≤ zs.length →
    Rises (Lib.compactUpTo zs.toArray m) ∧ (∀ x, x ∈ Lib.compactUpTo zs.toArray m ↔ x ∈ zs.take m) ∧ (∀ x ∈ Lib.compactUpTo zs.toArray m, ∀ y, zs[m - 1]? = some y → Op.bytesLess y x = false) := by
  intro m
  induction m with
  | zero => intro _; refine ⟨by simp [Lib.compactUpTo, Rises], fun x => by simp [Lib.compactUpTo], fun x hx => by simp [Lib.compactUpTo] at hx⟩
  | succ m ih =>
    intro hm
    obtain ⟨h1, h2, h3⟩ := ih (by omega)
    obtain ⟨z, hz2⟩ := get_some (xs := zs) (k := m) (by omega)
    have hget : zs.toArray[m]! = z := by
      rw [getElem!_pos zs.toArray m (by simp; omega)]
      have := List.getElem?_eq_some_iff.1 hz2
      obtain ⟨h4, h5⟩ := this
      simpa using h5
    have hord : ∀ (j k : Nat) {a b : List UInt8}, j < k → zs[j]? = some a → zs[k]? = some b → Op.bytesLess b a = false := fun j k a b hjk ha hb => by
      obtain ⟨p1, p2⟩ := List.getElem?_eq_some_iff.1 ha
      obtain ⟨q1, q2⟩ := List.getElem?_eq_some_iff.1 hb
      have := List.pairwise_iff_getElem.1 hz j k p1 q1 hjk
      rw [p2, q2] at this; exact this
    have hmem : ∀ x ∈ zs.take m, Op.bytesLess z x = false := fun x hx => by
      obtain ⟨j, hj, he⟩ := List.mem_iff_getElem.1 hx
      have hj2 : j < m := by simp at hj; omega
      rw [List.getElem_take] at he
      exact hord j m hj2 (by rw [← he]; exact List.getElem?_eq_getElem (by omega)) hz2
    rw [Lib.compactUpTo_succ, hget, take_snoc hz2]
    simp only [Nat.add_sub_cancel]
    by_cases hk : Lib.keeps zs.toArray m = true
    · rw [if_pos hk]
      have hne : ∀ x ∈ zs.take m, x ≠ z := fun x hx e => by
        subst e
        by_cases hm0 : m = 0
        · subst hm0; simp at hx
        · obtain ⟨y, hy⟩ := get_some (xs := zs) (k := m - 1) (by omega)
          have hyx : y = x := by
            have h4 := hord (m - 1) m (by omega) hy hz2
            have h5 := h3 x ((h2 x).2 hx) y hy
            exact bytesLess_tri h5 h4
          have hgy : zs.toArray[m - 1]! = y := by
            rw [getElem!_pos zs.toArray (m - 1) (by simp; omega)]
            obtain ⟨h4, h5⟩ := List.getElem?_eq_some_iff.1 hy
            simpa using h5
          have := Lib.keeps_neg (d := zs.toArray) (m := m) (by omega) (by rw [hget, hgy, hyx])
          rw [this] at hk; cases hk
      have hlt : ∀ x ∈ zs.take m, Op.bytesLess x z = true := fun x hx => by
        cases h4 : Op.bytesLess x z with
        | true => rfl
        | false => exact absurd (bytesLess_tri h4 (hmem x hx)) (hne x hx)
      refine ⟨?_, fun x => by simp [h2], fun x hx y hy => ?_⟩
      · unfold Rises
        rw [List.pairwise_append]
        refine ⟨h1, by simp, fun a ha b hb => ?_⟩
        rw [List.mem_singleton] at hb; subst hb
        exact hlt a ((h2 a).1 ha)
      · rw [hz2] at hy
        obtain rfl := Option.some.inj hy
        rcases List.mem_append.1 hx with e | e
        · exact hmem x ((h2 x).1 e)
        · rw [List.mem_singleton] at e; subst e; exact bytesLess_irrefl _
    · rw [if_neg hk, List.append_nil]
      have hm0 : 0 < m := by
        rcases Nat.eq_zero_or_pos m with e | e
        · subst e; exact absurd (Lib.keeps_lt_one _ 0 (by omega)) hk
        · exact e
      obtain ⟨y, hy⟩ := get_some (xs := zs) (k := m - 1) (by omega)
      have hgy : zs.toArray[m - 1]! = y := by
        rw [getElem!_pos zs.toArray (m - 1) (by simp; omega)]
        obtain ⟨h4, h5⟩ := List.getElem?_eq_some_iff.1 hy
        simpa using h5
      have hyz : z = y := by
        rw [← hget, ← hgy]
        exact Decidable.byContradiction (fun hne => hk (Lib.keeps_pos hne))
      subst hyz
      have hin : z ∈ zs.take m := by
        refine List.mem_iff_getElem?.2 ⟨m - 1, ?_⟩
        rw [List.getElem?_take, if_pos (by omega)]; exact hy
      refine ⟨h1, fun x => ?_, fun x hx y hy2 => ?_⟩
      · rw [List.mem_append, List.mem_singleton, h2]
        exact ⟨.inl, fun h => h.elim id (fun e => e ▸ hin)⟩
      · rw [hz2] at hy2
        obtain rfl := Option.some.inj hy2
        exact h3 x hx _ hy
theorem compact_sort (ss : Names) : Rises (Lib.compact (sortL ss)) ∧ ∀ x, x ∈ Lib.compact (sortL ss) ↔ x ∈ ss := by
  obtain ⟨h1, h2, _⟩ := compact_to (sort_pair ss) (sortL ss).length (Nat.le_refl _)
  refine ⟨h1, fun x => ?_⟩
  have := h2 x
  rw [List.take_of_length_le (Nat.le_refl _), sort_mem] at this
  exact this
theorem compact_len (zs : Names) : (Lib.compact zs).length ≤ zs.length := by
  unfold Lib.compact Lib.compactUpTo
  rw [List.length_map]
  exact Nat.le_trans (List.length_filter_le _ _) (by simp)
theorem compact_nil : Lib.compact ([] : Names) = [] := by simp [Lib.compact, Lib.compactUpTo]
/-! Settings by name. -/
def namesOf (xs : List NV) : Names := xs.map NV.name
def setL (xs : List NV) (e : NV) : List NV := xs.filter (fun x => Op.bytesLess x.name e.name) ++ e :: xs.filter (fun x => Op.bytesLess e.name x.name)
def setTo (xs : List NV) (e : NV) (k : Nat) : List NV × Bool :=
  if (xs.take k).all (fun x => Op.bytesLess x.name e.name) then (xs.take k, false) else (setL (xs.take k) e, true)
theorem rises_take {xs : List NV} (h : Rises (namesOf xs)) (k : Nat) : Rises (namesOf (xs.take k)) := by
  unfold Rises namesOf at h ⊢; rw [List.map_take]; exact h.sublist (List.take_sublist _ _)
theorem rises_at {xs : List NV} (h : Rises (namesOf xs)) {j k : Nat} {x y : NV} (hjk : j < k) (hx : xs[j]? = some x) (hy : xs[k]? = some y) : Op.bytesLess x.name y.name = true := by
  obtain ⟨p1, p2⟩ := List.getElem?_eq_some_iff.1 hx
  obtain ⟨q1, q2⟩ := List.getElem?_eq_some_iff.1 hy
  have := List.pairwise_iff_getElem.1 h j k (by simpa [namesOf] using p1) (by simpa [namesOf] using q1) hjk
  simpa [namesOf, p2, q2] using this
theorem state_rises {xs : List NV} (h : okState xs = true) : Rises (namesOf xs) := by
  unfold Rises namesOf
  rw [List.pairwise_iff_getElem]
  intro i j hi hj hij
  simp only [List.length_map] at hi hj
  simp only [List.getElem_map]
  exact state_rise h j i hij (List.getElem?_eq_getElem hi) (List.getElem?_eq_getElem hj)
theorem setTo_zero (xs : List NV) (e : NV) : setTo xs e 0 = ([], false) := by simp [setTo]
section
variable {xs : List NV} {e x : NV} {k : Nat}
theorem setL_all {xs : List NV} (h : xs.all (fun x => Op.bytesLess x.name e.name) = true) : setL xs e = xs ++ [e] := by
  have h1 : xs.filter (fun x => Op.bytesLess x.name e.name) = xs := List.filter_eq_self.2 (fun x hx => List.all_eq_true.1 h x hx)
  have h2 : xs.filter (fun x => Op.bytesLess e.name x.name) = [] := List.filter_eq_nil_iff.2 (fun x hx => by have := bytesLess_asymm (List.all_eq_true.1 h x hx); simp [this])
  unfold setL; rw [h1, h2]
/-- One round: behind the test on the name, and behind the second test. -/
def midSet (xs : List NV) (e : NV) (k : Nat) (x : NV) : List NV × Bool :=
  if (setTo xs e k).2 = false ∧ Op.bytesLess x.name e.name = false then ((setTo xs e k).1 ++ [e], true) else setTo xs e k
theorem setTo_succ (hr : Rises (namesOf xs)) (hx : xs[k]? = some x) : setTo xs e (k + 1) = (if x.name ≠ e.name then (midSet xs e k x).1 ++ [x] else (midSet xs e k x).1, (midSet xs e k x).2) := by
  have hbefore : ∀ y ∈ xs.take k, Op.bytesLess y.name x.name = true := fun y hy => by
    obtain ⟨j, hj, he⟩ := List.mem_iff_getElem.1 hy
    have hj2 : j < k := by simp at hj; omega
    have hk := lt_of_get hx
    rw [List.getElem_take] at he
    exact rises_at hr hj2 (by rw [← he]; exact List.getElem?_eq_getElem (by omega)) hx
  by_cases hall : (xs.take k).all (fun x => Op.bytesLess x.name e.name) = true
  · have e1 : setTo xs e k = (xs.take k, false) := by unfold setTo; rw [if_pos hall]
    by_cases hlt : Op.bytesLess x.name e.name = true
    · have h2 : (xs.take (k + 1)).all (fun x => Op.bytesLess x.name e.name) = true := by rw [take_snoc hx, List.all_append, hall]; simp [hlt]
      have hne : x.name ≠ e.name := fun h => by rw [h, bytesLess_irrefl] at hlt; cases hlt
      have e2 : midSet xs e k x = (xs.take k, false) := by unfold midSet; rw [e1, if_neg (by rw [hlt]; simp)]
      have e3 : setTo xs e (k + 1) = (xs.take (k + 1), false) := by unfold setTo; rw [if_pos h2]
      rw [e2, e3, if_pos hne, take_snoc hx]
    · have hlt' : Op.bytesLess x.name e.name = false := by simpa using hlt
      have h2 : ¬ (xs.take (k + 1)).all (fun x => Op.bytesLess x.name e.name) = true := by rw [take_snoc hx, List.all_append]; simp [hlt']
      have e2 : midSet xs e k x = (xs.take k ++ [e], true) := by unfold midSet; rw [e1, if_pos ⟨rfl, hlt'⟩]
      have e3 : setTo xs e (k + 1) = (setL (xs.take (k + 1)) e, true) := by unfold setTo; rw [if_neg h2]
      rw [e2, e3]
      have h3 := setL_all (e := e) hall
      rw [take_snoc hx]
      unfold setL at h3 ⊢
      rw [List.filter_append, List.filter_append]
      have h4 : [x].filter (fun x => Op.bytesLess x.name e.name) = [] := by simp [hlt']
      rw [h4, List.append_nil]
      have h5 : (xs.take k).filter (fun x => Op.bytesLess e.name x.name) = [] := List.filter_eq_nil_iff.2 (fun y hy => by have := bytesLess_asymm (List.all_eq_true.1 hall y hy); simp [this])
      have h6 : (xs.take k).filter (fun x => Op.bytesLess x.name e.name) = xs.take k := List.filter_eq_self.2 (fun y hy => List.all_eq_true.1 hall y hy)
      rw [h5, h6, List.nil_append]
      by_cases hne : x.name ≠ e.name
      · have hgt : Op.bytesLess e.name x.name = true := by
          cases h7 : Op.bytesLess e.name x.name with
          | true => rfl
          | false => exact absurd (bytesLess_tri hlt' h7) hne
        rw [if_pos hne]; simp [hgt]
      · have hgt : Op.bytesLess e.name x.name = false := by rw [Decidable.not_not.1 hne]; exact bytesLess_irrefl _
        rw [if_neg hne]; simp [hgt]
  · have e1 : setTo xs e k = (setL (xs.take k) e, true) := by unfold setTo; rw [if_neg hall]
    have h2 : ¬ (xs.take (k + 1)).all (fun x => Op.bytesLess x.name e.name) = true := by
      rw [take_snoc hx, List.all_append, Bool.and_eq_true]; exact fun h => hall h.1
    have hgt : Op.bytesLess e.name x.name = true := by
      have : ∃ y ∈ xs.take k, Op.bytesLess y.name e.name = false := by
        apply Decidable.byContradiction
        intro h
        apply hall
        rw [List.all_eq_true]
        intro y hy
        cases h7 : Op.bytesLess y.name e.name with
        | true => rfl
        | false => exact absurd ⟨y, hy, h7⟩ h
      obtain ⟨y, hy, h7⟩ := this
      have h8 := hbefore y hy
      cases h9 : Op.bytesLess e.name y.name with
      | true => exact bytesLess_trans h9 h8
      | false => rw [← bytesLess_tri h7 h9]; exact h8
    have hne : x.name ≠ e.name := fun h => by rw [h, bytesLess_irrefl] at hgt; cases hgt
    have e2 : midSet xs e k x = (setL (xs.take k) e, true) := by unfold midSet; rw [e1, if_neg (by simp)]
    have e3 : setTo xs e (k + 1) = (setL (xs.take (k + 1)) e, true) := by unfold setTo; rw [if_neg h2]
    rw [e2, e3, if_pos hne, take_snoc hx]
    unfold setL
    rw [List.filter_append, List.filter_append]
    have h4 : [x].filter (fun x => Op.bytesLess x.name e.name) = [] := by simp [bytesLess_asymm hgt]
    have h5 : [x].filter (fun x => Op.bytesLess e.name x.name) = [x] := by simp [hgt]
    rw [h4, h5, List.append_nil]; simp
theorem setTo_end : setL xs e = if (setTo xs e xs.length).2 then (setTo xs e xs.length).1 else (setTo xs e xs.length).1 ++ [e] := by
  unfold setTo
  rw [List.take_of_length_le (Nat.le_refl _)]
  by_cases h : xs.all (fun x => Op.bytesLess x.name e.name) = true
  · rw [if_pos h]; exact setL_all h
  · rw [if_neg h]; rfl
theorem setL_rises (hr : Rises (namesOf xs)) : Rises (namesOf (setL xs e)) := by
  unfold setL Rises namesOf
  unfold Rises namesOf at hr
  rw [List.map_append, List.map_cons, List.pairwise_append, List.pairwise_cons]
  refine ⟨(List.pairwise_map.1 hr).filter _ |> List.pairwise_map.2, ⟨fun y hy => ?_, (List.pairwise_map.1 hr).filter _ |> List.pairwise_map.2⟩, fun a ha b hb => ?_⟩
  · obtain ⟨z, hz, rfl⟩ := List.mem_map.1 hy
    exact (List.mem_filter.1 hz).2
  · obtain ⟨y, hy, rfl⟩ := List.mem_map.1 ha
    have h1 := (List.mem_filter.1 hy).2
    rcases List.mem_cons.1 hb with rfl | hb
    · exact h1
    · obtain ⟨z, hz, rfl⟩ := List.mem_map.1 hb
      exact bytesLess_trans h1 (List.mem_filter.1 hz).2
theorem setL_names {n : List UInt8} : n ∈ namesOf (setL xs e) ↔ n = e.name ∨ n ∈ namesOf xs := by
  unfold setL namesOf
  rw [List.map_append, List.map_cons, List.mem_append, List.mem_cons]
  constructor
  · rintro (h | h | h)
    · obtain ⟨y, hy, rfl⟩ := List.mem_map.1 h
      exact .inr (List.mem_map.2 ⟨y, (List.mem_filter.1 hy).1, rfl⟩)
    · exact .inl h
    · obtain ⟨y, hy, rfl⟩ := List.mem_map.1 h
      exact .inr (List.mem_map.2 ⟨y, (List.mem_filter.1 hy).1, rfl⟩)
  · rintro (h | h)
    · exact .inr (.inl h)
    · obtain ⟨y, hy, rfl⟩ := List.mem_map.1 h
      cases h1 : Op.bytesLess y.name e.name with
      | true => exact .inl (List.mem_map.2 ⟨y, List.mem_filter.2 ⟨hy, h1⟩, rfl⟩)
      | false =>
        cases h2 : Op.bytesLess e.name y.name with
        | true => exact .inr (.inr (List.mem_map.2 ⟨y, List.mem_filter.2 ⟨hy, h2⟩, rfl⟩))
        | false => exact .inr (.inl (bytesLess_tri h1 h2))
theorem setL_len : (setL xs e).length ≤ xs.length + 1 := by
  have key : ∀ (xs : List NV), (xs.filter (fun x => Op.bytesLess x.name e.name)).length + (xs.filter (fun x => Op.bytesLess e.name x.name)).length ≤ xs.length := by
    intro xs
    induction xs with
    | nil => simp
    | cons y xs ih =>
      rw [List.filter_cons, List.filter_cons]
      cases h1 : Op.bytesLess y.name e.name with
      | true => rw [bytesLess_asymm h1]; simp; omega
      | false => cases Op.bytesLess e.name y.name <;> simp <;> omega
  have := key xs
  unfold setL
  simp; omega
end
def insAll (acc xs : List NV) : List NV := xs.foldl setL acc
theorem insAll_snoc {acc xs : List NV} {k : Nat} {x : NV} (h : xs[k]? = some x) : insAll acc (xs.take (k + 1)) = setL (insAll acc (xs.take k)) x := by
  unfold insAll; rw [take_snoc h, List.foldl_append]; rfl
theorem insAll_rises {xs : List NV} : ∀ {acc : List NV}, Rises (namesOf acc) → Rises (namesOf (insAll acc xs)) := by
  induction xs with
  | nil => intro acc h; exact h
  | cons x xs ih => intro acc h; exact ih (setL_rises h)
theorem insAll_names {xs : List NV} {n : List UInt8} : ∀ {acc : List NV}, n ∈ namesOf (insAll acc xs) ↔ n ∈ namesOf acc ∨ n ∈ namesOf xs := by
  induction xs with
  | nil => intro acc; simp [insAll, namesOf]
  | cons x xs ih =>
    intro acc
    show n ∈ namesOf (insAll (setL acc x) xs) ↔ _
    rw [ih, setL_names]
    simp only [namesOf, List.map_cons, List.mem_cons]
    constructor
    · rintro ((h | h) | h)
      · exact .inr (.inl h)
      · exact .inl h
      · exact .inr (.inr h)
    · rintro (h | h | h)
      · exact .inl (.inr h)
      · exact .inl (.inl h)
      · exact .inr h
theorem insAll_len {xs : List NV} : ∀ {acc : List NV}, (insAll acc xs).length ≤ acc.length + xs.length := by
  induction xs with
  | nil => intro acc; simp [insAll]
  | cons x xs ih =>
    intro acc
    have h1 := ih (acc := setL acc x)
    have h2 := setL_len (xs := acc) (e := x)
    show (insAll (setL acc x) xs).length ≤ _
    simp only [List.length_cons]; omega
/-- All names of three states, in order. -/
def names3 (base a b : List NV) : Names := Lib.compact (sortL (namesOf (base ++ a ++ b)))
theorem names3_ins (base a b : List NV) : namesOf (insAll (insAll (insAll [] base) a) b) = names3 base a b := by
  obtain ⟨h1, h2⟩ := compact_sort (namesOf (base ++ a ++ b))
  refine rises_ext (insAll_rises (insAll_rises (insAll_rises (by simp [Rises, namesOf])))) h1 (fun x => ?_)
  rw [insAll_names, insAll_names, insAll_names]
  unfold names3 at *
  rw [h2]
  simp [namesOf, or_assoc]
theorem names3_mem {base a b : List NV} {n : List UInt8} : n ∈ names3 base a b ↔ n ∈ namesOf base ∨ n ∈ namesOf a ∨ n ∈ namesOf b := by
  unfold names3
  rw [(compact_sort _).2]
  simp [namesOf]
theorem names3_len (base a b : List NV) : (names3 base a b).length ≤ base.length + a.length + b.length := by
  have h := compact_len (sortL (namesOf (base ++ a ++ b)))
  unfold names3
  simp [sortL, namesOf] at h ⊢
  omega
end Go.V
