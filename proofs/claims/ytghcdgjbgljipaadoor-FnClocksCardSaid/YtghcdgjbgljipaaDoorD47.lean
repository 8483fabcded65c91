/- Machines as they are drawn; leads; what lies below and above the median. -/
import Derived.Test.YtghcdgjbgljipaaDoorD11
import Derived.Test.YtghcdgjbgljipaaDoorD3
import Derived.Test.YtghcdgjbgljipaaDoorD35
import Derived.Test.YtghcdgjbgljipaaDoorD16
set_option linter.all false
/- An order by insertion; medians. -/
namespace Go.V
open Go
def keyK (ks : List Int) (y : Int) : Int := (ks[y.toNat]?).getD 0
def posK (ks : List Int) (x : Int) (o : List Int) : Nat → Nat
  | 0 => 0
  | j + 1 => match o[j]? with
    | some y => if x < keyK ks y then posK ks x o j else j + 1
    | none => j + 1
def ordK (ks : List Int) : Nat → List Int
  | 0 => []
  | k + 1 => (ordK ks k).take (posK ks (keyK ks k) (ordK ks k) k) ++ (k : Int) :: (ordK ks k).drop (posK ks (keyK ks k) (ordK ks k) k)
theorem ordK_length (ks : List Int) : ∀ k, (ordK ks k).length = k
  | 0 => rfl
  | k + 1 => by
    have := ordK_length ks k
    simp only [ordK, List.length_append, List.length_cons, List.length_take, List.length_drop]; omega
section
variable {ks o : List Int} {x y : Int} {j k : Nat}
theorem posK_go (hy : o[j]? = some y) (h : x < keyK ks y) : posK ks x o (j + 1) = posK ks x o j := by
  simp only [posK, hy, if_pos h]
theorem posK_stop (hy : o[j]? = some y) (h : ¬ x < keyK ks y) : posK ks x o (j + 1) = j + 1 := by
  simp only [posK, hy, if_neg h]
theorem ordK_get : ∀ {n : Nat}, ∀ y ∈ ordK ks n, ∃ m : Nat, y = (m : Int) ∧ m < n
  | 0, y, h => by cases h
  | n + 1, y, h => by
    simp only [ordK, List.mem_append, List.mem_cons] at h
    rcases h with h | h | h
    · obtain ⟨m, h1, h2⟩ := ordK_get y (List.mem_of_mem_take h); exact ⟨m, h1, by omega⟩
    · exact ⟨n, h, by omega⟩
    · obtain ⟨m, h1, h2⟩ := ordK_get y (List.mem_of_mem_drop h); exact ⟨m, h1, by omega⟩
theorem ordK_next (h : posK ks (keyK ks k) (ordK ks k) k = j) : (((ordK ks k).take j).map encI ++ [encI (k : Int)]) ++ ((ordK ks k).drop j).map encI = (ordK ks (k + 1)).map encI := by
  subst h; simp [ordK]
theorem keyK_get (h : ks[k]? = some x) : keyK ks (k : Int) = x := by simp [keyK, h]
/-- Where one stops: what is behind is greater, what is just before is not. -/
theorem posK_spec : ∀ (j : Nat), j ≤ o.length → posK ks x o j ≤ j ∧ (∀ (i : Nat) y, posK ks x o j ≤ i → i < j → o[i]? = some y → x < keyK ks y) ∧ (∀ (i : Nat) y, i + 1 = posK ks x o j → o[i]? = some y → keyK ks y ≤ x)
  | 0, _ => ⟨Nat.le_refl _, fun i y h1 h2 => by omega, fun i y h => by simp [posK] at h⟩
  | j + 1, hj => by
    obtain ⟨z, hz⟩ := get_some (xs := o) (k := j) (by omega)
    by_cases h : x < keyK ks z
    · obtain ⟨h1, h2, h3⟩ := posK_spec j (by omega)
      rw [posK_go hz h]
      refine ⟨by omega, fun i y h4 h5 h6 => ?_, h3⟩
      by_cases e : i = j
      · subst e; rw [hz] at h6; obtain rfl := Option.some.inj h6; exact h
      · exact h2 i y h4 (by omega) h6
    · rw [posK_stop hz h]
      refine ⟨Nat.le_refl _, fun i y h4 h5 => by omega, fun i y h4 h5 => ?_⟩
      obtain rfl : i = j := by omega
      rw [hz] at h5; obtain rfl := Option.some.inj h5; omega
theorem sorted_insert {vs : List Int} {p : Nat} (hs : vs.Pairwise (fun a b => a ≤ b)) (h1 : ∀ (i : Nat) v, p ≤ i → vs[i]? = some v → x ≤ v) (h2 : ∀ (i : Nat) v, i + 1 = p → vs[i]? = some v → v ≤ x) (hp : p ≤ vs.length) :
    (vs.take p ++ x :: vs.drop p).Pairwise (fun a b => a ≤ b) := by
  have ht : ∀ a ∈ vs.take p, a ≤ x := by
    intro a ha
    obtain ⟨i, hi⟩ := List.getElem?_of_mem ha
    have hil := lt_of_get hi
    rw [List.length_take] at hil
    rw [List.getElem?_take_of_lt (by omega)] at hi
    obtain ⟨z, hz⟩ := get_some (xs := vs) (k := p - 1) (by omega)
    have hzx := h2 (p - 1) z (by omega) hz
    by_cases e : i = p - 1
    · subst e; rw [hz] at hi; obtain rfl := Option.some.inj hi; exact hzx
    · obtain ⟨l1, e1⟩ := List.getElem?_eq_some_iff.1 hi
      obtain ⟨l2, e2⟩ := List.getElem?_eq_some_iff.1 hz
      have := List.pairwise_iff_getElem.1 hs i (p - 1) l1 l2 (by omega)
      rw [e1, e2] at this; omega
  have hd : ∀ b ∈ vs.drop p, x ≤ b := by
    intro b hb
    obtain ⟨i, hi⟩ := List.getElem?_of_mem hb
    rw [List.getElem?_drop] at hi
    exact h1 (p + i) b (by omega) hi
  rw [List.pairwise_append, List.pairwise_cons]
  refine ⟨hs.sublist (List.take_sublist _ _), ⟨hd, hs.sublist (List.drop_sublist _ _)⟩, fun a ha b hb => ?_⟩
  rcases List.mem_cons.1 hb with rfl | hb
  · exact ht a ha
  · exact Int.le_trans (ht a ha) (hd b hb)
theorem ord_sorted : ∀ (k : Nat), k ≤ ks.length → ((ordK ks k).map (keyK ks)).Pairwise (fun a b => a ≤ b) ∧ ((ordK ks k).map (keyK ks)).Perm (ks.take k)
  | 0, _ => by simp [ordK]
  | k + 1, hk => by
    obtain ⟨h1, h2⟩ := ord_sorted k (by omega)
    obtain ⟨x, hx⟩ := get_some (xs := ks) (k := k) (by omega)
    have hkx := keyK_get hx
    have hl := ordK_length ks k
    obtain ⟨q1, q2, q3⟩ := posK_spec (ks := ks) (x := x) (o := ordK ks k) k (by omega)
    simp only [ordK]
    rw [hkx, List.map_append, List.map_cons, List.map_take, List.map_drop, hkx]
    refine ⟨sorted_insert h1 (fun i v h3 h4 => ?_) (fun i v h3 h4 => ?_) (by rw [List.length_map, hl]; exact q1), ?_⟩
    · rw [List.getElem?_map] at h4
      cases hy : (ordK ks k)[i]? with
      | none => rw [hy] at h4; cases h4
      | some y =>
        rw [hy] at h4; obtain rfl := Option.some.inj h4
        have := q2 i y h3 (by have := lt_of_get hy; omega) hy; omega
    · rw [List.getElem?_map] at h4
      cases hy : (ordK ks k)[i]? with
      | none => rw [hy] at h4; cases h4
      | some y =>
        rw [hy] at h4; obtain rfl := Option.some.inj h4
        exact q3 i y h3 hy
    · rw [take_snoc hx]
      refine List.Perm.trans List.perm_middle ?_
      rw [List.take_append_drop]
      exact (List.Perm.cons x h2).trans (List.perm_append_singleton x _).symm
def sortZ (zs : List Int) : List Int := zs.mergeSort fun x y => decide (x ≤ y)
theorem sortZ_sorted (zs : List Int) : (sortZ zs).Pairwise (fun a b => a ≤ b) := by
  have := List.pairwise_mergeSort (le := fun x y : Int => decide (x ≤ y)) (fun a b c h1 h2 => by simp at *; omega) (fun a b => by simp; omega) zs
  exact this.imp (fun h => by simpa using h)
theorem sort_unique {as bs : List Int} (ha : as.Pairwise (fun a b => a ≤ b)) (hb : bs.Pairwise (fun a b => a ≤ b)) (h : as.Perm bs) : as = bs :=
  h.eq_of_pairwise (fun a b _ _ h1 h2 => by omega) ha hb
theorem ord_sort (ks : List Int) : (ordK ks ks.length).map (keyK ks) = sortZ ks := by
  obtain ⟨h1, h2⟩ := ord_sorted (ks := ks) ks.length (Nat.le_refl _)
  rw [List.take_length] at h2
  exact sort_unique h1 (sortZ_sorted ks) (h2.trans (List.mergeSort_perm _ _).symm)
theorem sortZ_len (zs : List Int) : (sortZ zs).length = zs.length := by simp [sortZ]
theorem sortZ_mem {zs : List Int} {v : Int} : v ∈ sortZ zs ↔ v ∈ zs := by unfold sortZ; exact List.mem_mergeSort
/-- The value that is in the middle; its first place. -/
def medV (ks : List Int) : Int := ((sortZ ks)[(ks.length - 1) / 2]?).getD 0
theorem med_get {ks : List Int} (h : ks ≠ []) : (sortZ ks)[(ks.length - 1) / 2]? = some (medV ks) := by
  have hl := List.length_pos_iff.2 h
  obtain ⟨v, hv⟩ := get_some (xs := sortZ ks) (k := (ks.length - 1) / 2) (by rw [sortZ_len]; omega)
  rw [hv]; simp [medV, hv]
theorem med_mem {ks : List Int} (h : ks ≠ []) : medV ks ∈ ks := sortZ_mem.1 (List.mem_of_getElem? (med_get h))
theorem ord_med {ks : List Int} (h : ks ≠ []) {m : Nat} (hm : (ordK ks ks.length)[(ks.length - 1) / 2]? = some (m : Int)) {v : Int} (hv : ks[m]? = some v) : v = medV ks := by
  have h1 := ord_sort ks
  have h2 := med_get h
  rw [← h1, List.getElem?_map, hm] at h2
  simp only [Option.map_some, Option.some.injEq] at h2
  rw [keyK_get hv] at h2; exact h2
end
theorem med_idx {n : Nat} (h : n ≠ 0) : ((n : Int) - 1).tdiv 2 = (((n - 1) / 2 : Nat) : Int) := by
  rw [Int.tdiv_eq_ediv_of_nonneg (by omega)]; omega
def offs (xs : List Mach) : List Int := xs.map Mach.offset
theorem offs_get {xs : List Mach} {k : Nat} {x : Mach} (h : xs[k]? = some x) : (offs xs)[k]? = some x.offset := by unfold offs; rw [List.getElem?_map, h]; rfl
theorem offs_len (xs : List Mach) : (offs xs).length = xs.length := by simp [offs]
def medianM (xs : List Mach) : Int × Int := if askMachines xs = 0 then (idxOf (fun x => decide (medV (offs xs) = x)) (offs xs), 0) else (0, askMachines xs)
theorem med_any {xs : List Mach} (hne : offs xs ≠ []) (h : anyTo (fun x => decide (medV (offs xs) = x)) (offs xs) xs.length = false) : False := by
  rw [← offs_len, anyTo_all] at h
  have := List.any_eq_false.1 h _ (med_mem hne)
  simp at this
end Go.V
namespace Go.V
open Go Go.RowKit
theorem pickR0 {n p : Int} (h : 0 < n) : 0 ≤ (0 : Int) ∧ (0 : Int) < n ∧ p ≤ p ∧ p ≤ p + 2 := ⟨Int.le_refl _, h, Int.le_refl _, by omega⟩
/-- At most so many machines, with short names. -/
def DM (xs : List Mach) (k : Nat) : Prop := xs.length ≤ k ∧ ∀ x ∈ xs, x.name.length ≤ 40
theorem DM.nil (k : Nat) : DM [] k := ⟨Nat.zero_le _, fun _ h => by cases h⟩
theorem DM.add {xs : List Mach} {k : Nat} {x : Mach} (h : DM xs k) (hx : x.name.length ≤ 40) : DM (xs ++ [x]) (k + 1) := by
  refine ⟨by simp; exact h.1, fun y hy => ?_⟩
  rcases List.mem_append.1 hy with e | e
  · exact h.2 y e
  · rw [List.mem_singleton] at e; subst e; exact hx
theorem DM.up {xs : List Mach} {k m : Nat} (h : DM xs k) (hk : k ≤ m) : DM xs m := ⟨Nat.le_trans h.1 hk, h.2⟩
theorem DM.names {xs : List Mach} {k : Nat} (h : DM xs k) : ∀ x ∈ xs, x.name.length ≤ 1048576 := fun x hx => by have := h.2 x hx; omega
theorem lettM {k : Nat} (h : k < 5) : ([[PV.v (.string ⟨#[97]⟩)], [PV.v (.string ⟨#[98]⟩)], [PV.v (.string ⟨#[99]⟩)], [PV.v (.string ⟨#[100]⟩)], [PV.v (.string ⟨#[101]⟩)]] : List (List PV))[k]? = some [PV.v (str [UInt8.ofNat (97 + k)])] := by
  match k, h with
  | 0, _ => rfl
  | 1, _ => rfl
  | 2, _ => rfl
  | 3, _ => rfl
  | 4, _ => rfl
theorem dec_short {k : Nat} (h : k ≤ 9) : (Lib.itoa (k : Int)).length ≤ 19 := itoa_len (by omega)
theorem late_max {xs : List Mach} (h : okMachines xs = true) : ∀ x ∈ xs, x.delay ≤ maxTo Mach.delay xs xs.length := by
  have : ∀ (k : Nat), ∀ (j : Nat) (x : Mach), j < k → xs[j]? = some x → x.delay ≤ maxTo Mach.delay xs k := by
    intro k
    induction k with
    | zero => intro j x h; omega
    | succ k ih =>
      intro j x hj hx
      by_cases e : j = k
      · subst e; rw [maxTo_succ hx]; omega
      · have := ih j x (by omega) hx
        simp only [maxTo]; split <;> omega
  intro x hx
  obtain ⟨j, hj⟩ := List.getElem?_of_mem hx
  exact this _ j x (lt_of_get hj) hj
theorem max_at (xs : List Mach) : ∀ (k : Nat), maxTo Mach.delay xs k = 0 ∨ ∃ x ∈ xs, maxTo Mach.delay xs k = x.delay
  | 0 => .inl rfl
  | k + 1 => by
    simp only [maxTo]
    split
    · next x hx =>
      rcases Int.le_total (maxTo Mach.delay xs k) x.delay with h | h
      · right; exact ⟨x, List.mem_of_getElem? hx, by omega⟩
      · rcases max_at xs k with e | ⟨y, hy, e⟩
        · left; omega
        · right; exact ⟨y, hy, by omega⟩
    · exact max_at xs k
theorem idxTo_nil {α : Type} {p : α → Bool} {xs : List α} (h : ∀ x ∈ xs, p x = false) : ∀ (k : Nat), idxTo p xs k = []
  | 0 => rfl
  | k + 1 => by
    simp only [idxTo]
    split
    · next x hx => rw [h x (List.mem_of_getElem? hx)]; simpa using idxTo_nil h k
    · exact idxTo_nil h k
theorem idxTo_some {α : Type} {p : α → Bool} {xs : List α} {j : Nat} {x : α} (hx : xs[j]? = some x) (h : p x = true) : ∀ (k : Nat), j < k → idxTo p xs k ≠ []
  | 0, hk => by omega
  | k + 1, hk => by
    simp only [idxTo]
    by_cases e : j = k
    · subst e; rw [hx]; simp [h]
    · have := idxTo_some hx h k (by omega)
      split
      · split
        · simp
        · exact this
      · exact this
/-- A lead is enough for all; one less is not. -/
theorem lead_facts {xs : List Mach} (h : (leadFor xs 0).2 = 0) :
    0 ≤ (leadFor xs 0).1 ∧ (leadFor xs 0).1 ≤ 1000000000 ∧ lateMachines xs (leadFor xs 0).1 = ([], 0) ∧ (0 < (leadFor xs 0).1 → (lateMachines xs ((leadFor xs 0).1 - 1)).2 = 0 ∧ (lateMachines xs ((leadFor xs 0).1 - 1)).1.length ≠ 0) := by
  have hk : askMachines xs = 0 := by
    by_cases hk : askMachines xs = 0
    · exact hk
    · unfold leadFor at h; rw [if_neg hk] at h; exact h
  obtain ⟨hok, hne⟩ := ask_ok hk
  have e : leadFor xs 0 = ((maxTo Mach.delay xs xs.length + 1) / 2, 0) := by unfold leadFor; rw [if_pos hk]; simp
  have hl := delay_lim hok xs.length
  rw [e]
  refine ⟨by show 0 ≤ _ / 2; omega, by show _ / 2 ≤ _; omega, ?_, fun hp => ?_⟩
  · show lateMachines xs ((maxTo Mach.delay xs xs.length + 1) / 2) = _
    unfold lateMachines
    rw [if_pos hk, if_neg (by omega)]
    refine congrArg (fun l => (l, (0 : Int))) (idxTo_nil (fun x hx => ?_) _)
    have := late_max hok x hx
    simp only [lateB, decide_eq_false_iff_not]; omega
  · have hp : 0 < (maxTo Mach.delay xs xs.length + 1) / 2 := hp
    show (lateMachines xs ((maxTo Mach.delay xs xs.length + 1) / 2 - 1)).2 = 0 ∧ (lateMachines xs ((maxTo Mach.delay xs xs.length + 1) / 2 - 1)).1.length ≠ 0
    unfold lateMachines
    rw [if_pos hk, if_neg (by omega)]
    refine ⟨rfl, ?_⟩
    rcases max_at xs xs.length with e9 | ⟨x, hx, e9⟩
    · omega
    · obtain ⟨j, hj⟩ := List.getElem?_of_mem hx
      have : idxTo (lateB ((maxTo Mach.delay xs xs.length + 1) / 2 - 1)) xs xs.length ≠ [] := idxTo_some hj (by simp only [lateB, decide_eq_true_eq]; omega) _ (lt_of_get hj)
      intro e; exact this (List.length_eq_zero_iff.1 e)
/-- How many among the first. -/
def cntB {α : Type} (p : α → Bool) (xs : List α) (k : Nat) : Int := ((xs.take k).countP p : Nat)
theorem cntB_T {α : Type} {p : α → Bool} {xs : List α} {k : Nat} {x : α} (hx : xs[k]? = some x) (h : p x = true) : cntB p xs (k + 1) = cntB p xs k + 1 := by
  unfold cntB; rw [take_snoc hx, List.countP_append]; simp [h]
theorem cntB_F {α : Type} {p : α → Bool} {xs : List α} {k : Nat} {x : α} (hx : xs[k]? = some x) (h : p x = false) : cntB p xs (k + 1) = cntB p xs k := by
  unfold cntB; rw [take_snoc hx, List.countP_append]; simp [h]
theorem cntB_lim {α : Type} (p : α → Bool) (xs : List α) (k : Nat) : 0 ≤ cntB p xs k ∧ cntB p xs k ≤ xs.length := by
  unfold cntB
  have h1 := List.countP_le_length (p := p) (l := xs.take k)
  rw [List.length_take] at h1
  omega
def lowO (v : Int) (x : Mach) : Bool := decide (x.offset < v)
def highO (v : Int) (x : Mach) : Bool := decide (x.offset > v)
theorem sorted_at {vs : List Int} (hs : vs.Pairwise (fun a b => a ≤ b)) {m : Nat} {v : Int} (hv : vs[m]? = some v) :
    vs.countP (fun x => decide (x < v)) ≤ m ∧ vs.countP (fun x => decide (x > v)) + m + 1 ≤ vs.length := by
  have hm := lt_of_get hv
  obtain ⟨hl, e⟩ := List.getElem?_eq_some_iff.1 hv
  have h1 : (vs.drop m).countP (fun x => decide (x < v)) = 0 := by
    rw [List.countP_eq_zero]
    intro a ha
    obtain ⟨i, hi⟩ := List.getElem?_of_mem ha
    rw [List.getElem?_drop] at hi
    obtain ⟨l2, e2⟩ := List.getElem?_eq_some_iff.1 hi
    by_cases e3 : i = 0
    · subst e3; simp only [Nat.add_zero] at e2; rw [e] at e2; subst e2; simp
    · have := List.pairwise_iff_getElem.1 hs m (m + i) hl l2 (by omega)
      rw [e, e2] at this; simp; omega
  have h2 : (vs.take (m + 1)).countP (fun x => decide (x > v)) = 0 := by
    rw [List.countP_eq_zero]
    intro a ha
    obtain ⟨i, hi⟩ := List.getElem?_of_mem ha
    have hil := lt_of_get hi
    rw [List.length_take] at hil
    rw [List.getElem?_take_of_lt (by omega)] at hi
    obtain ⟨l2, e2⟩ := List.getElem?_eq_some_iff.1 hi
    by_cases e3 : i = m
    · subst e3; rw [e] at e2; subst e2; simp
    · have := List.pairwise_iff_getElem.1 hs i m l2 hl (by omega)
      rw [e, e2] at this; simp; omega
  constructor
  · conv => lhs; rw [← List.take_append_drop m vs]
    rw [List.countP_append, h1]
    have := List.countP_le_length (p := fun x => decide (x < v)) (l := vs.take m)
    rw [List.length_take] at this; omega
  · have h3 : vs.countP (fun x => decide (x > v)) = (vs.drop (m + 1)).countP (fun x => decide (x > v)) := by
      conv => lhs; rw [← List.take_append_drop (m + 1) vs]
      rw [List.countP_append, h2, Nat.zero_add]
    have := List.countP_le_length (p := fun x => decide (x > v)) (l := vs.drop (m + 1))
    rw [List.length_drop] at this; omega
/-- The median lies in the middle. -/
theorem med_facts {xs : List Mach} (h : (medianM xs).2 = 0) :
    ∃ (j : Nat) (y : Mach), (medianM xs).1 = (j : Int) ∧ xs[j]? = some y ∧ xs.length ≤ 8 ∧ 2 * cntB (lowO y.offset) xs xs.length ≤ (xs.length : Int) - 1 ∧ 2 * cntB (highO y.offset) xs xs.length ≤ xs.length := by
  have hk : askMachines xs = 0 := by
    by_cases hk : askMachines xs = 0
    · exact hk
    · unfold medianM at h; rw [if_neg hk] at h; exact h
  obtain ⟨hok, hn⟩ := ask_ok hk
  have hne : offs xs ≠ [] := fun e => hn (by rw [← offs_len, e]; rfl)
  have e : (medianM xs).1 = idxOf (fun x => decide (medV (offs xs) = x)) (offs xs) := by unfold medianM; rw [if_pos hk]
  obtain ⟨i, hi⟩ := List.getElem?_of_mem (med_mem hne)
  have hex : ∃ (j : Nat), idxOf (fun x => decide (medV (offs xs) = x)) (offs xs) = (j : Int) ∧ (offs xs)[j]? = some (medV (offs xs)) := by
    have key : ∀ (k : Nat), k ≤ (offs xs).length → anyTo (fun x => decide (medV (offs xs) = x)) (offs xs) k = true → ∃ (j : Nat), idxOf (fun x => decide (medV (offs xs) = x)) (offs xs) = (j : Int) ∧ (offs xs)[j]? = some (medV (offs xs)) := by
      intro k
      induction k with
      | zero => intro _ h; simp [anyTo] at h
      | succ k ih =>
        intro hk9 h9
        by_cases hb : anyTo (fun x => decide (medV (offs xs) = x)) (offs xs) k = true
        · exact ih (by omega) hb
        · rw [Bool.not_eq_true] at hb
          obtain ⟨x, hx⟩ := get_some (xs := offs xs) (k := k) (by omega)
          rw [anyTo_succ hx, hb, Bool.false_or] at h9
          have h9' : medV (offs xs) = x := by simpa using h9
          exact ⟨k, idx_hit hb hx h9, by rw [h9']; exact hx⟩
    refine key _ (Nat.le_refl _) ?_
    rw [anyTo_all]
    exact List.any_eq_true.2 ⟨_, med_mem hne, by simp⟩
  obtain ⟨j, e2, hj⟩ := hex
  obtain ⟨y, hy⟩ := get_some (xs := xs) (k := j) (by rw [← offs_len]; exact lt_of_get hj)
  have hyo := offs_get hy
  rw [hj] at hyo
  have hv : medV (offs xs) = y.offset := Option.some.inj hyo
  have hs := sorted_at (sortZ_sorted (offs xs)) (med_get hne)
  have hp : (sortZ (offs xs)).Perm (offs xs) := List.mergeSort_perm _ _
  rw [hp.countP_eq, hp.countP_eq, sortZ_len, offs_len] at hs
  have c1 : ∀ p : Int → Bool, (offs xs).countP p = xs.countP (fun x => p x.offset) := fun p => by unfold offs; rw [List.countP_map]; rfl
  rw [c1, c1, hv] at hs
  refine ⟨j, y, by rw [e, e2], hy, machines_len hok, ?_, ?_⟩
  · unfold cntB; rw [List.take_length]
    have : xs.countP (lowO y.offset) ≤ (xs.length - 1) / 2 := hs.1
    omega
  · unfold cntB; rw [List.take_length]
    have : xs.countP (highO y.offset) + (xs.length - 1) / 2 + 1 ≤ xs.length := hs.2
    omega
theorem lead_bad {xs : List Mach} (h : ¬ askMachines xs = 0) : medianM xs = (0, askMachines xs) := by unfold medianM; rw [if_neg h]
theorem med_bad {xs : List Mach} (h : ¬ (medianM xs).2 = 0) : (medianM xs).1 = 0 := by
  unfold medianM at h ⊢; split
  · next h1 => rw [if_pos h1] at h; exact absurd rfl h
  · rfl
end Go.V
