/- Files that are drawn, needs that are made of them, and how plans, latest loads and the least bandwidth stand to one another. -/
import Derived.Test.YtbbechcbdeknnaaD14
set_option linter.all false
namespace Go.V
open Go

theorem okB_of {α : Type} {one : α → Bool} {ge : α → α → Bool} {xs : List α} (h1 : ∀ (k : Nat) x, xs[k]? = some x → one x = true) (h2 : ∀ (k : Nat) x y, xs[k + 1]? = some x → xs[k]? = some y → ge y x = false) : okB one ge xs = true := by
  unfold okB
  suffices h : ∀ k, okTo one ge xs k = true from h _
  intro k
  induction k with
  | zero => rfl
  | succ k ih =>
    simp only [okTo, ih, Bool.true_and]
    cases hx : xs[k]? with
    | none => rfl
    | some x =>
      simp only [h1 k x hx, Bool.true_and]
      cases k with
      | zero => rfl
      | succ j =>
        simp only
        cases hy : xs[j]? with
        | none => rfl
        | some y => simp [h2 j x y hx hy]
theorem allI_of {α : Type} {p : Nat → α → Bool} {xs : List α} (h : ∀ (k : Nat) x, xs[k]? = some x → p k x = true) : allI p xs = true := by
  unfold allI
  suffices h' : ∀ k, allITo p xs k = true from h' _
  intro k
  induction k with
  | zero => rfl
  | succ k ih =>
    simp only [allITo, ih, Bool.true_and]
    cases hx : xs[k]? with
    | none => rfl
    | some x => exact h k x hx

/-- Files as they are drawn. -/
def DrawnM (ms : List NV) : Prop := ms.length ≤ 6 ∧ ∀ (k : Nat) x, ms[k]? = some x → x.name = [UInt8.ofNat (97 + k)] ∧ 1 ≤ x.val ∧ x.val ≤ 50
theorem lett_inj {i j : Nat} (hi : i < 6) (hj : j < 6) (h : [UInt8.ofNat (97 + i)] = [UInt8.ofNat (97 + j)]) : i = j := by
  have := congrArg (fun l : List UInt8 => l.map UInt8.toNat) h
  simp only [List.map_cons, List.map_nil, UInt8.toNat_ofNat', List.cons.injEq, and_true] at this
  omega
theorem lett_name {i : Nat} (hi : i < 6) : isName [UInt8.ofNat (97 + i)] = true := by
  have : i = 0 ∨ i = 1 ∨ i = 2 ∨ i = 3 ∨ i = 4 ∨ i = 5 := by omega
  rcases this with rfl | rfl | rfl | rfl | rfl | rfl <;> decide
theorem lett_less {i : Nat} (hi : i + 1 < 6) : Op.bytesLess [UInt8.ofNat (97 + i)] [UInt8.ofNat (97 + (i + 1))] = true := by
  have : i = 0 ∨ i = 1 ∨ i = 2 ∨ i = 3 ∨ i = 4 := by omega
  rcases this with rfl | rfl | rfl | rfl | rfl <;> decide
theorem drawn_ok {ms : List NV} (h : DrawnM ms) : okMedias ms = true := by
  unfold okMedias
  rw [Bool.and_eq_true]
  refine ⟨okB_of (fun k x hx => ?_) (fun k x y hx hy => ?_), by have := h.1; simp; omega⟩
  · obtain ⟨h1, h2, h3⟩ := h.2 k x hx
    have hk := lt_of_get hx
    have := h.1
    unfold okMedia
    rw [h1, lett_name (by omega)]
    simp; omega
  · obtain ⟨h1, _⟩ := h.2 _ x hx
    obtain ⟨h2, _⟩ := h.2 _ y hy
    have hk := lt_of_get hx
    have := h.1
    unfold geNV
    rw [h1, h2, lett_less (by omega)]; rfl
/-- Needs of all of them, in their order. -/
def NeedsOf (ms xs : List NV) (T : Int) : Prop := xs.length ≤ ms.length ∧ 100 ≤ T ∧ T ≤ 100 + 3900 * (xs.length : Int) ∧
  ∀ (j : Nat) x, xs[j]? = some x → (∃ m, ms[j]? = some m ∧ x.name = m.name) ∧ 100 ≤ x.val ∧ x.val ≤ T ∧ ∀ y, 0 < j → xs[j - 1]? = some y → y.val ≤ x.val
theorem needs_nil (ms : List NV) : NeedsOf ms [] 100 := ⟨by simp, by omega, by simp, fun j x h => by simp at h⟩
theorem needs_add {ms xs : List NV} {T d : Int} {m : NV} (h : NeedsOf ms xs T) (hm : ms[xs.length]? = some m) (h0 : 0 ≤ d) (h1 : d ≤ 39) : NeedsOf ms (xs ++ [⟨m.name, T + 100 * d⟩]) (T + 100 * d) := by
  obtain ⟨h2, h3, h4, h5⟩ := h
  have hk := lt_of_get hm
  refine ⟨by simp; omega, by omega, by simp; omega, fun j x hx => ?_⟩
  rcases Nat.lt_trichotomy j xs.length with h6 | h6 | h6
  · rw [List.getElem?_append_left h6] at hx
    obtain ⟨h7, h8, h9, h10⟩ := h5 j x hx
    refine ⟨h7, h8, by omega, fun y hy1 hy2 => ?_⟩
    rw [List.getElem?_append_left (by omega)] at hy2
    exact h10 y hy1 hy2
  · subst h6
    simp at hx; subst hx
    refine ⟨⟨m, hm, rfl⟩, by simp; omega, by simp, fun y hy1 hy2 => ?_⟩
    rw [List.getElem?_append_left (by omega)] at hy2
    have := (h5 _ y hy2).2.2.1
    simp; omega
  · rw [List.getElem?_append_right (by omega)] at hx
    have : 0 < j - xs.length := by omega
    rw [List.getElem?_eq_none (by simp; omega)] at hx; cases hx
theorem needs_fit {ms xs : List NV} {T : Int} (h : DrawnM ms) (hn : NeedsOf ms xs T) : okNeeds ms xs = true := by
  obtain ⟨h2, h3, h4, h5⟩ := hn
  have hl := h.1
  unfold okNeeds
  rw [drawn_ok h, Bool.true_and, Bool.and_eq_true]
  refine ⟨allI_of (fun k x hx => ?_), by simp; omega⟩
  obtain ⟨⟨m, hm, he⟩, h6, h7, h8⟩ := h5 k x hx
  obtain ⟨hm1, hm2, hm3⟩ := h.2 k m hm
  have hk := lt_of_get hx
  have hlk : lookup ms x.name ≠ 0 := by
    unfold lookup
    cases hf : ms.find? (fun y => decide (y.name = x.name)) with
    | none =>
      rw [List.find?_eq_none] at hf
      have := hf m (List.mem_of_getElem? hm)
      simp [he] at this
    | some y =>
      obtain ⟨i, hi⟩ := List.getElem?_of_mem (List.mem_of_find?_eq_some hf)
      have := h.2 i y hi
      simp; omega
  have ha : (xs.take k).any (nameIs x.name) = false := by
    rw [List.any_eq_false]
    intro y hy
    obtain ⟨i, hi⟩ := List.getElem?_of_mem hy
    have hik : i < k := by have := lt_of_get hi; simp at this; omega
    rw [List.getElem?_take_of_lt hik] at hi
    obtain ⟨⟨m2, hm4, he2⟩, _⟩ := h5 i y hi
    obtain ⟨hm5, _⟩ := h.2 i m2 hm4
    simp only [nameIs, decide_eq_true_eq]
    intro e
    rw [he2, hm5, he, hm1] at e
    have := lett_inj (by omega) (by omega) e
    omega
  unfold okNeed
  rw [ha]
  simp only [Bool.and_true, Bool.not_false, Bool.and_eq_true, Bool.not_eq_true', decide_eq_false_iff_not, decide_eq_true_eq]
  refine ⟨⟨hlk, by omega, by omega⟩, ?_⟩
  cases hy : xs[k - 1]? with
  | none => rfl
  | some y =>
    simp only [Bool.not_eq_true', Bool.and_eq_false_iff, decide_eq_false_iff_not]
    by_cases h0 : 0 < k
    · right; have := h8 y h0 hy; omega
    · left; exact h0

/-! How they stand to one another. -/
section
variable {ms xs : List NV} {b : Int}
theorem late_iff (k : Nat) (hk : k ≤ xs.length) : lateTo ms xs b k ≤ 0 ↔ ∀ (i : Nat) x, i < k → xs[i]? = some x → sumTo (loadT ms b) xs (i + 1) ≤ x.val := by
  induction k with
  | zero => simp [lateTo]
  | succ k ih =>
    obtain ⟨x, hx⟩ := get_some (xs := xs) (k := k) (by omega)
    rw [lateTo_succ hx]
    have ih' := ih (by omega)
    constructor
    · intro h i y hi hy
      rcases Nat.lt_or_ge i k with h1 | h1
      · exact ih'.1 (by omega) i y h1 hy
      · obtain rfl : i = k := by omega
        rw [hx] at hy; obtain rfl := Option.some.inj hy
        omega
    · intro h
      have h1 := ih'.2 (fun i y hi hy => h i y (by omega) hy)
      have h2 := h k x (by omega) hx
      omega
theorem end_iff (hok : okNeeds ms xs = true) (hb : 1 ≤ b) (j : Nat) (hj : j ≤ xs.length) : sumTo (loadT ms b) xs (xs.length - j) ≤ endF ms xs b j ↔ sumTo (loadT ms b) xs xs.length ≤ 7200000 ∧ ∀ (i : Nat) x, xs.length - j ≤ i → xs[i]? = some x → sumTo (loadT ms b) xs (i + 1) ≤ x.val := by
  induction j with
  | zero =>
    simp only [Nat.sub_zero, endF]
    constructor
    · intro h
      refine ⟨h, fun i x hi hx => ?_⟩
      have := lt_of_get hx; omega
    · intro h; exact h.1
  | succ j ih =>
    obtain ⟨x, hx⟩ := get_some (xs := xs) (k := xs.length - 1 - j) (by omega)
    have ih' := ih (by omega)
    rw [endF_succ hx]
    have e1 : xs.length - (j + 1) = xs.length - 1 - j := by omega
    have e2 : xs.length - j = xs.length - 1 - j + 1 := by omega
    have hs := sumTo_succ (f := loadT ms b) hx
    rw [e1]
    rw [e2] at ih'
    constructor
    · intro h
      have h1 := ih'.1 (by omega)
      refine ⟨h1.1, fun i y hi hy => ?_⟩
      rcases Nat.lt_or_ge (xs.length - 1 - j) i with h2 | h2
      · exact h1.2 i y (by omega) hy
      · obtain rfl : i = xs.length - 1 - j := by omega
        rw [hx] at hy; obtain rfl := Option.some.inj hy
        omega
    · intro h
      have h1 := ih'.2 ⟨h.1, fun i y hi hy => h.2 i y (by omega) hy⟩
      have h2 := h.2 _ x (Nat.le_refl _) hx
      omega
theorem last_need (hok : okNeeds ms xs = true) (hl : xs.length ≠ 0) (h : ∀ (i : Nat) x, xs[i]? = some x → sumTo (loadT ms b) xs (i + 1) ≤ x.val) : sumTo (loadT ms b) xs xs.length ≤ 7200000 := by
  obtain ⟨x, hx⟩ := get_some (xs := xs) (k := xs.length - 1) (by omega)
  have h1 := h _ x hx
  rw [show xs.length - 1 + 1 = xs.length by omega] at h1
  have := need_lim (allI_at (needs_ok hok).2.1 hx)
  omega
theorem sums_pos (hok : okNeeds ms xs = true) (hb : 1 ≤ b) (k : Nat) : 0 ≤ sumTo (loadT ms b) xs k := by
  have := (sums_lim (xs := xs) (needs_ok hok).1 hb k).1; omega
/-- If all is in time, each latest load is not ahead of the plan's. -/
theorem end_ge (hok : okNeeds ms xs = true) (hb : 1 ≤ b) (hl : xs.length ≠ 0) (h : inTime ms xs b = true) (j : Nat) (hj : j ≤ xs.length) : sumTo (loadT ms b) xs (xs.length - j) ≤ endF ms xs b j := by
  simp only [inTime, decide_eq_true_eq] at h
  have h1 := (late_iff (ms := ms) (b := b) xs.length (Nat.le_refl _)).1 h
  have h2 : ∀ (i : Nat) x, xs[i]? = some x → sumTo (loadT ms b) xs (i + 1) ≤ x.val := fun i x hx => h1 i x (lt_of_get hx) hx
  exact (end_iff hok hb j hj).2 ⟨last_need hok hl h2, fun i x _ hx => h2 i x hx⟩
theorem end_ok (hok : okNeeds ms xs = true) (hb : 1 ≤ b) (hl : xs.length ≠ 0) : endOk ms xs b xs.length = inTime ms xs b := by
  cases hi : inTime ms xs b with
  | true =>
    have : ∀ j, j ≤ xs.length → endOk ms xs b j = true := by
      intro j
      induction j with
      | zero => intro _; rfl
      | succ j ih =>
        intro hj
        have h1 := end_ge hok hb hl hi (j + 1) hj
        have h2 := sums_pos (xs := xs) hok hb (xs.length - (j + 1))
        simp only [endOk, ih (by omega), Bool.true_and, decide_eq_true_eq]
        omega
    exact this _ (Nat.le_refl _)
  | false =>
    cases he : endOk ms xs b xs.length with
    | false => rfl
    | true =>
      obtain ⟨n, hn⟩ : ∃ n, xs.length = n + 1 := ⟨xs.length - 1, by omega⟩
      have h1 : 0 ≤ endF ms xs b xs.length := by
        rw [hn] at he ⊢
        simp only [endOk, Bool.and_eq_true, decide_eq_true_eq] at he; exact he.2
      have h2 := (end_iff hok hb xs.length (Nat.le_refl _)).1 (by rw [Nat.sub_self]; exact h1)
      have h3 := (late_iff (ms := ms) (b := b) xs.length (Nat.le_refl _)).2 (fun i x _ hx => h2.2 i x (by omega) hx)
      simp only [inTime, decide_eq_false_iff_not] at hi
      exact absurd h3 hi
theorem endV_get (j i : Nat) (h : i < j) : (endV ms xs b j)[i]? = some (endF ms xs b (j - i)) := by
  induction j generalizing i with
  | zero => omega
  | succ j ih =>
    cases i with
    | zero => simp [endV]
    | succ i =>
      simp only [endV, List.getElem?_cons_succ]
      rw [ih i (by omega)]
      congr 2; omega
theorem plan_step (hok : okNeeds ms xs = true) (hb : 1 ≤ b) {k : Nat} (hk : k < xs.length) : sumTo (loadT ms b) xs k ≤ sumTo (loadT ms b) xs (k + 1) := by
  obtain ⟨x, hx⟩ := get_some hk
  rw [sumTo_succ hx]
  have := loadT_lim (needs_ok hok).1 hb x
  omega
theorem least_up (hok : okNeeds ms xs = true) {w : Int} (hw : 1 ≤ w) (hd : (leastBandwidth ms xs).2 = 0) : (decide (lateTo ms xs w xs.length ≤ 0) = decide (w ≥ (leastBandwidth ms xs).1)) ∧ 1 ≤ (leastBandwidth ms xs).1 ∧ (leastBandwidth ms xs).1 ≤ 100000 ∧ lateTo ms xs (leastBandwidth ms xs).1 xs.length ≤ 0 ∧ ((leastBandwidth ms xs).1 ≠ 1 → 0 < lateTo ms xs ((leastBandwidth ms xs).1 - 1) xs.length) := by
  unfold leastBandwidth at hd ⊢
  rw [if_pos hok] at hd ⊢
  split at hd
  · next h =>
    simp only [if_pos h]
    have hr := halve_range (p := inTime ms xs) (lo := 1) (hi := 100000) (by omega)
    have hh := halve_hit (p := inTime ms xs) (lo := 1) (hi := 100000) (by omega) h
    have hm := halve_min (p := inTime ms xs) (inTime_up (needs_ok hok).1) (lo := 1) (hi := 100000) (by omega) (by omega)
    refine ⟨?_, hr.1, hr.2, by simpa [inTime] using hh, fun h1 => ?_⟩
    · by_cases hw2 : halve (inTime ms xs) 1 100000 ≤ w
      · have := inTime_up (xs := xs) (needs_ok hok).1 _ w hr.1 hw2 hh
        simp only [inTime] at this
        rw [this]; simp; omega
      · have := hm w hw (by omega)
        simp only [inTime] at this
        rw [this]; simp; omega
    · have := hm (halve (inTime ms xs) 1 100000 - 1) (by omega) (by omega)
      simp only [inTime, decide_eq_false_iff_not] at this; omega
  · simp at hd
theorem least_code (hok : okNeeds ms xs = true) : (leastBandwidth ms xs).2 = 0 ∨ (leastBandwidth ms xs).2 = 3 := by
  unfold leastBandwidth; rw [if_pos hok]; split <;> simp
end
theorem byte_u8 (c : UInt8) : 0 ≤ IntKind.i64.wrap (c.toNat : Int) ∧ IntKind.i64.wrap (c.toNat : Int) ≤ 255 := by
  have := c.toNat_lt
  rw [wrap_id (by omega) (by omega)]; omega
theorem pick_lim {a n p q : Int} (h : 0 ≤ a ∧ a ≤ 255) (hn : 1 < n) (hq : p ≤ q ∧ q ≤ p + 2) : 0 ≤ a.tmod n ∧ a.tmod n < n ∧ p ≤ q ∧ q ≤ p + 2 := by
  rw [Int.tmod_eq_emod_of_nonneg h.1]
  exact ⟨Int.emod_nonneg _ (by omega), Int.emod_lt_of_pos _ (by omega), hq⟩
theorem pick_lim2 {a b n p q : Int} (h : 0 ≤ a ∧ a ≤ 255) (hb : 0 ≤ b ∧ b ≤ 255) (hn : 1 < n) (hq : p ≤ q ∧ q ≤ p + 2) : 0 ≤ (a * 256 + b).tmod n ∧ (a * 256 + b).tmod n < n ∧ p ≤ q ∧ q ≤ p + 2 := by
  rw [Int.tmod_eq_emod_of_nonneg (by omega)]
  exact ⟨Int.emod_nonneg _ (by omega), Int.emod_lt_of_pos _ (by omega), hq⟩
theorem drawn_nil : DrawnM [] := ⟨by simp, fun k x h => by simp at h⟩
theorem drawn_add {ms : List NV} {k : Nat} {v : Int} (h : DrawnM ms) (hk : ms.length = k) (h6 : k < 6) (h0 : 0 ≤ v) (h1 : v < 50) : DrawnM (ms ++ [⟨[UInt8.ofNat (97 + k)], 1 + v⟩]) := by
  refine ⟨by simp; omega, fun j x hx => ?_⟩
  rcases Nat.lt_trichotomy j ms.length with h2 | h2 | h2
  · rw [List.getElem?_append_left h2] at hx; exact h.2 j x hx
  · subst h2
    simp at hx; subst hx
    refine ⟨by simp [hk], by simp; omega, by simp; omega⟩
  · rw [List.getElem?_append_right (by omega), List.getElem?_eq_none (by simp; omega)] at hx; cases hx
theorem lett_row {k : Nat} (hk : k < 6) : ([[PV.v (.string ⟨#[97]⟩)], [PV.v (.string ⟨#[98]⟩)], [PV.v (.string ⟨#[99]⟩)], [PV.v (.string ⟨#[100]⟩)], [PV.v (.string ⟨#[101]⟩)], [PV.v (.string ⟨#[102]⟩)]] : List (List PV))[k]? = some [.v (str [UInt8.ofNat (97 + k)])] := by
  have : k = 0 ∨ k = 1 ∨ k = 2 ∨ k = 3 ∨ k = 4 ∨ k = 5 := by omega
  rcases this with rfl | rfl | rfl | rfl | rfl | rfl <;> rfl
/-- A number below n that an input chooses. -/
def r8At (l : List UInt8) (k n : Int) : Int := if n ≤ 1 ∨ (l.length : Int) ≤ k then 0 else match l[k.toNat]? with | some c => (c.toNat : Int) % n | none => 0
theorem r8At_lim {l : List UInt8} {k n : Int} (hn : 1 ≤ n) : 0 ≤ r8At l k n ∧ r8At l k n < n := by
  unfold r8At
  split
  · omega
  · split
    · exact ⟨Int.emod_nonneg _ (by omega), Int.emod_lt_of_pos _ (by omega)⟩
    · omega
theorem r8At_hit {l : List UInt8} {k n : Int} {c : UInt8} (hn : ¬ n ≤ 1) (hk : k < l.length) (hc : l[k.toNat]? = some c) : (IntKind.i64.wrap (c.toNat : Int)).tmod n = r8At l k n := by
  have := c.toNat_lt
  unfold r8At
  rw [if_neg (by omega), hc, wrap_id (by omega) (by omega), Int.tmod_eq_emod_of_nonneg (by omega)]
theorem r8At_no {l : List UInt8} {k n : Int} (h : n ≤ 1 ∨ (l.length : Int) ≤ k) : 0 = r8At l k n := by
  unfold r8At; rw [if_pos h]
theorem hasB {l : List PV} (h : (Ty.int .u8).Has l) : ∃ x : UInt8, l = encB x ∧ True := by
  obtain ⟨n, rfl, w⟩ := has_int h
  refine ⟨UInt8.ofNat n.toNat, ?_, trivial⟩
  have hw : 0 ≤ n ∧ n ≤ 255 := by
    simp [Lit.wf, IntKind.min, IntKind.max, IntKind.signed, IntKind.bits] at w
    omega
  unfold encB
  rw [UInt8.toNat_ofNat']
  congr 3
  omega
theorem drawn_names {ms : List NV} (h : DrawnM ms) : ∀ x ∈ ms, x.name.length ≤ 1048576 := by
  intro x hx
  obtain ⟨i, hi⟩ := List.getElem?_of_mem hx
  rw [(h.2 i x hi).1]; simp
theorem needs_names {ms xs : List NV} {T : Int} (h : DrawnM ms) (hn : NeedsOf ms xs T) : ∀ x ∈ xs, x.name.length ≤ 1048576 := by
  intro x hx
  obtain ⟨i, hi⟩ := List.getElem?_of_mem hx
  obtain ⟨⟨m, hm, he⟩, _⟩ := hn.2.2.2 i x hi
  rw [he]; exact drawn_names h m (List.mem_of_getElem? hm)
theorem ask_zero {ms xs : List NV} {b : Int} (hok : okNeeds ms xs = true) (h1 : 1 ≤ b) (h2 : b ≤ 100000) : askNeeds ms xs b = 0 := by
  unfold askNeeds; rw [if_pos hok, if_pos (by simp [h1, h2])]
theorem late_zero {ms xs : List NV} {b : Int} (h : askNeeds ms xs b = 0) : latenessOf ms xs b = if xs.length = 0 then (0, 6) else (lateTo ms xs b xs.length, 0) := by
  unfold latenessOf; rw [if_pos h]
theorem latest_all {ms xs : List NV} {b : Int} (hok : okNeeds ms xs = true) (h : askNeeds ms xs b = 0) (hl : xs.length ≠ 0) : latestLoads ms xs b = if inTime ms xs b = true then (endV ms xs b xs.length, 0) else ([], 6) := by
  have hb := ask_needs h
  unfold latestLoads; rw [if_pos h, end_ok hok hb.2.1 hl]
theorem latest_none {ms xs : List NV} {b : Int} (h : askNeeds ms xs b = 0) (hl : xs.length = 0) : latestLoads ms xs b = ([], 0) := by
  unfold latestLoads; rw [if_pos h, if_pos (by rw [hl]; rfl)]
  simp [hl, endV]
theorem plan_all {ms xs : List NV} {b : Int} (h : askNeeds ms xs b = 0) : loadPlan ms xs b = (planL ms xs b xs.length, 0) := by
  unfold loadPlan; rw [if_pos h]
theorem late_same {ms xs : List NV} {b : Int} {l : List Int} : (((if inTime ms xs b = true then (l, (0 : Int)) else ([], 6)).2 == 0) != decide (lateTo ms xs b xs.length ≤ 0)) = false := by
  cases hi : inTime ms xs b with
  | true => have h := hi; unfold inTime at h; rw [if_pos rfl, h]; rfl
  | false => have h := hi; unfold inTime at h; rw [if_neg (by simp), h]; rfl
theorem late_is {ms xs : List NV} {b : Int} {l : List Int} (h : ((if inTime ms xs b = true then (l, (0 : Int)) else ([], 6)).2 == 0) = true) : inTime ms xs b = true := by
  cases hi : inTime ms xs b with
  | true => rfl
  | false => rw [hi] at h; simp at h
end Go.V
