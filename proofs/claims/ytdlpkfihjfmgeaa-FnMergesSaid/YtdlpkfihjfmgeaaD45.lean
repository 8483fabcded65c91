/- States that are drawn, changed, merged: the laws of merging. -/
import Derived.Test.YtdlpkfihjfmgeaaD34
import Derived.Test.YtdlpkfihjfmgeaaD16
namespace Go.V
open Go
theorem pickR0 {n p : Int} (h : 0 < n) : 0 ≤ (0 : Int) ∧ (0 : Int) < n ∧ p ≤ p ∧ p ≤ p + 2 := ⟨Int.le_refl _, h, Int.le_refl _, by omega⟩
theorem okState_of {xs : List NV} (h1 : ∀ x ∈ xs, okSetting x = true) (h2 : Rises (namesOf xs)) (h3 : xs.length ≤ 24) : okState xs = true := by
  unfold okState
  rw [Bool.and_eq_true, decide_eq_true_eq]
  refine ⟨okB_of (fun k x hx => h1 x (List.mem_of_getElem? hx)) (fun k x y hx hy => ?_), h3⟩
  unfold geNV
  rw [rises_at h2 (Nat.lt_succ_self k) hy hx]; rfl
/-- A state of at most so many settings. -/
structure SG (xs : List NV) (m : Nat) : Prop where
  one : ∀ x ∈ xs, okSetting x = true
  rise : Rises (namesOf xs)
  len : xs.length ≤ m
theorem SG.ok {xs : List NV} {m : Nat} (h : SG xs m) (hm : m ≤ 24) : okState xs = true := okState_of h.one h.rise (Nat.le_trans h.len hm)
theorem SG.of {xs : List NV} (h : okState xs = true) : SG xs xs.length := by
  refine ⟨fun x hx => ?_, state_rises h, Nat.le_refl _⟩
  obtain ⟨k, hk⟩ := List.getElem?_of_mem hx
  exact okB_at (state_ok h) hk
theorem SG.nil (m : Nat) : SG [] m := ⟨(fun _ h => by cases h), (by simp [Rises, namesOf]), Nat.zero_le _⟩
theorem SG.up {xs : List NV} {m n : Nat} (h : SG xs m) (hm : m ≤ n) : SG xs n := ⟨h.one, h.rise, Nat.le_trans h.len hm⟩
theorem SG.del {xs : List NV} {m : Nat} (h : SG xs m) (k : Nat) : SG (xs.take k ++ xs.drop (k + 1)) m := by
  have hs : (xs.take k ++ xs.drop (k + 1)).Sublist xs := by
    conv => rhs; rw [← List.take_append_drop k xs]
    refine List.Sublist.append (List.Sublist.refl _) ?_
    rw [← List.drop_drop]
    exact List.drop_sublist 1 _
  refine ⟨fun x hx => h.one x (hs.subset hx), ?_, Nat.le_trans hs.length_le h.len⟩
  exact List.Pairwise.sublist (hs.map NV.name) h.rise
theorem SG.set {xs : List NV} {m : Nat} (h : SG xs m) {e : NV} (he : okSetting e = true) : SG (setL xs e) (m + 1) := by
  refine ⟨fun x hx => ?_, setL_rises h.rise, Nat.le_trans setL_len (by have := h.len; omega)⟩
  unfold setL at hx
  rcases List.mem_append.1 hx with hx | hx
  · exact h.one x (List.mem_filter.1 hx).1
  · rcases List.mem_cons.1 hx with rfl | hx
    · exact he
    · exact h.one x (List.mem_filter.1 hx).1
theorem SG.names {xs : List NV} {m : Nat} (h : SG xs m) : ∀ s ∈ xs, s.name.length ≤ 1048576 := fun s hs => by
  have := h.one s hs
  simp only [okSetting, Bool.and_eq_true] at this
  exact isName_len this.1
/-- A state that is being drawn: names are the first letters. -/
def DrawnS (xs : List NV) (k : Nat) : Prop := SG xs k ∧ ∀ x ∈ xs, ∃ j : Nat, j < k ∧ x.name = [UInt8.ofNat (97 + j)]
theorem drawnS_nil : DrawnS [] 0 := ⟨SG.nil 0, (fun _ h => by cases h)⟩
theorem drawnS_up {xs : List NV} {k : Nat} (h : DrawnS xs k) : DrawnS xs (k + 1) := ⟨h.1.up (by omega), fun x hx => let ⟨j, h1, h2⟩ := h.2 x hx; ⟨j, by omega, h2⟩⟩
theorem lett_mono : ∀ {i j : Nat}, i < j → j < 6 → Op.bytesLess [UInt8.ofNat (97 + i)] [UInt8.ofNat (97 + j)] = true := by
  intro i j h1 h2
  have : ∀ j, j < 6 → ∀ i, i < j → Op.bytesLess [UInt8.ofNat (97 + i)] [UInt8.ofNat (97 + j)] = true := by decide
  exact this j h2 i h1
theorem drawnS_add {xs : List NV} {k : Nat} {v : Int} (h : DrawnS xs k) (hk : k < 6) (h0 : 0 ≤ v) (h1 : v < 1001) : DrawnS (xs ++ [⟨[UInt8.ofNat (97 + k)], v⟩]) (k + 1) := by
  refine ⟨⟨fun x hx => ?_, ?_, ?_⟩, fun x hx => ?_⟩
  · rcases List.mem_append.1 hx with hx | hx
    · exact h.1.one x hx
    · rw [List.mem_singleton] at hx; subst hx
      simp only [okSetting, Bool.and_eq_true, decide_eq_true_eq]
      exact ⟨lett_name hk, h0, by omega⟩
  · unfold Rises namesOf
    rw [List.map_append, List.pairwise_append]
    refine ⟨h.1.rise, by simp, fun a ha b hb => ?_⟩
    obtain ⟨x, hx, rfl⟩ := List.mem_map.1 ha
    simp only [List.map_cons, List.map_nil, List.mem_singleton] at hb
    subst hb
    obtain ⟨j, hj, e⟩ := h.2 x hx
    rw [e]; exact lett_mono hj hk
  · have := h.1.len
    simp only [List.length_append, List.length_cons, List.length_nil]; omega
  · rcases List.mem_append.1 hx with hx | hx
    · obtain ⟨j, hj, e⟩ := h.2 x hx; exact ⟨j, by omega, e⟩
    · rw [List.mem_singleton] at hx; subst hx; exact ⟨k, by omega, rfl⟩
theorem lett5 {k : Nat} (h : k < 5) : ([[PV.v (.string ⟨#[97]⟩)], [PV.v (.string ⟨#[98]⟩)], [PV.v (.string ⟨#[99]⟩)], [PV.v (.string ⟨#[100]⟩)], [PV.v (.string ⟨#[101]⟩)]] : List (List PV))[k]? = some [.v (str [UInt8.ofNat (97 + k)])] := by
  match k, h with
  | 0, _ => rfl
  | 1, _ => rfl
  | 2, _ => rfl
  | 3, _ => rfl
  | 4, _ => rfl
theorem set_ok {k : Nat} (hk : k < 6) {v : Int} (h0 : 0 ≤ v) (h1 : v < 1001) : okSetting ⟨[UInt8.ofNat (97 + k)], v⟩ = true := by
  simp only [okSetting, Bool.and_eq_true, decide_eq_true_eq]
  exact ⟨lett_name hk, h0, by omega⟩
theorem idx_lim {xs : List NV} {n : List UInt8} (h : 0 ≤ idxOf (nameIs n) xs) : idxOf (nameIs n) xs < xs.length := by
  rcases idx_find xs n with ⟨h1, _⟩ | ⟨k, x, h1, hx, _⟩
  · omega
  · have := lt_of_get hx; omega
/-! Merging. -/
theorem vIn_ge {xs : List NV} (h : okState xs = true) (n : List UInt8) : -1 ≤ vIn xs n ∧ vIn xs n ≤ 1000 := by
  rcases idx_find xs n with ⟨_, h2⟩ | ⟨k, x, _, hx, hn, h2⟩
  · rw [vIn_miss h2]; omega
  · rw [vIn_hit h2]
    have := set_lim h (List.mem_of_getElem? hx); omega
theorem rises_find {xs : List NV} (h : Rises (namesOf xs)) {x : NV} (hx : x ∈ xs) : xs.find? (nameIs x.name) = some x := by
  obtain ⟨k, hk⟩ := List.getElem?_of_mem hx
  obtain ⟨hl, he⟩ := List.getElem?_eq_some_iff.1 hk
  rw [List.find?_eq_some_iff_getElem]
  refine ⟨by simp [nameIs], k, hl, he, fun j hj => ?_⟩
  have hjl : j < xs.length := by omega
  have := rises_at h hj (List.getElem?_eq_getElem hjl) hk
  simp only [nameIs, Bool.not_eq_true', decide_eq_false_iff_not]
  intro e
  rw [e, bytesLess_irrefl] at this; cases this
theorem vIn_mem {xs : List NV} (h : Rises (namesOf xs)) {x : NV} (hx : x ∈ xs) : vIn xs x.name = x.val := vIn_hit (rises_find h hx)
theorem vIn_out {xs : List NV} {n : List UInt8} (h : n ∉ namesOf xs) : vIn xs n = -1 := by
  refine vIn_miss (List.find?_eq_none.2 (fun x hx => ?_))
  simp only [nameIs, decide_eq_true_eq]
  intro e; exact h (List.mem_map.2 ⟨x, hx, e⟩)
theorem mem_of_vIn {xs : List NV} {n : List UInt8} (h : 0 ≤ vIn xs n) : ⟨n, vIn xs n⟩ ∈ xs := by
  rcases idx_find xs n with ⟨_, h2⟩ | ⟨k, x, _, hx, hn, h2⟩
  · rw [vIn_miss h2] at h; omega
  · rw [vIn_hit h2]
    have := List.mem_of_getElem? hx
    cases x; simp only at hn; subst hn; exact this
theorem state_ext {xs ys : List NV} (hx : okState xs = true) (hy : okState ys = true) (h : ∀ n, vIn xs n = vIn ys n) : xs = ys := by
  have key : ∀ {ps qs : List NV}, okState ps = true → okState qs = true → (∀ n, vIn ps n = vIn qs n) → ∀ x ∈ ps, x ∈ qs := by
    intro ps qs ha hb he x hxm
    have h1 := vIn_mem (state_rises ha) hxm
    have h2 := (set_lim ha hxm).2.1
    have h3 := mem_of_vIn (xs := qs) (n := x.name) (by rw [← he, h1]; exact h2)
    rw [← he, h1] at h3; exact h3
  have hm : ∀ n, n ∈ namesOf xs ↔ n ∈ namesOf ys := fun n => by
    simp only [namesOf, List.mem_map]
    exact ⟨fun ⟨x, h1, h2⟩ => ⟨x, key hx hy h x h1, h2⟩, fun ⟨x, h1, h2⟩ => ⟨x, key hy hx (fun n => (h n).symm) x h1, h2⟩⟩
  have hn : namesOf xs = namesOf ys := rises_ext (state_rises hx) (state_rises hy) hm
  have hl : xs.length = ys.length := by have := congrArg List.length hn; simpa [namesOf] using this
  refine List.ext_getElem? fun k => ?_
  by_cases hk : k < xs.length
  · obtain ⟨x, hx1⟩ := get_some hk
    obtain ⟨y, hy1⟩ := get_some (xs := ys) (k := k) (by omega)
    have e1 : (namesOf xs)[k]? = some x.name := by unfold namesOf; rw [List.getElem?_map, hx1]; rfl
    have e2 : (namesOf ys)[k]? = some y.name := by unfold namesOf; rw [List.getElem?_map, hy1]; rfl
    rw [hn, e2] at e1
    have en : y.name = x.name := Option.some.inj e1
    have v1 := vIn_mem (state_rises hx) (List.mem_of_getElem? hx1)
    have v2 := vIn_mem (state_rises hy) (List.mem_of_getElem? hy1)
    rw [en, ← h, v1] at v2
    rw [hx1, hy1]
    cases x; cases y; simp only at en v2; rw [en, v2]
  · rw [List.getElem?_eq_none (by omega), List.getElem?_eq_none (by omega)]
section
variable {base a b : List NV}
theorem mergeL_mem {x : NV} : x ∈ mergeL base a b ↔ x.name ∈ names3 base a b ∧ 0 ≤ mergeV base a b x.name ∧ x.val = mergeV base a b x.name := by
  unfold mergeL
  simp only [List.mem_map, List.mem_filter, decide_eq_true_eq]
  constructor
  · rintro ⟨n, ⟨h1, h2⟩, rfl⟩; exact ⟨h1, h2, rfl⟩
  · rintro ⟨h1, h2, h3⟩; exact ⟨x.name, ⟨h1, h2⟩, by cases x; simp only at h3; rw [h3]⟩
theorem mergeL_good (hb : okState base = true) (ha : okState a = true) (hb2 : okState b = true) : SG (mergeL base a b) (base.length + a.length + b.length) := by
  refine ⟨fun x hx => ?_, ?_, mergeL_len⟩
  · obtain ⟨h1, h2, h3⟩ := mergeL_mem.1 hx
    simp only [okSetting, Bool.and_eq_true, decide_eq_true_eq]
    have hv : mergeV base a b x.name ≤ 1000 := by
      unfold mergeV; split
      · exact (vIn_ge hb2 _).2
      · exact (vIn_ge ha _).2
    refine ⟨?_, by omega, by omega⟩
    rw [names3_mem] at h1
    simp only [namesOf, List.mem_map] at h1
    rcases h1 with ⟨y, hy, e⟩ | ⟨y, hy, e⟩ | ⟨y, hy, e⟩ <;> rw [← e]
    · exact (set_lim hb hy).1
    · exact (set_lim ha hy).1
    · exact (set_lim hb2 hy).1
  · have e : namesOf (mergeL base a b) = (names3 base a b).filter (fun n => decide (0 ≤ mergeV base a b n)) := by
      unfold mergeL namesOf; rw [List.map_map]; simp [Function.comp_def]
    rw [e]
    exact List.Pairwise.filter _ (compact_sort _).1
theorem mergeL_vIn (hb : okState base = true) (ha : okState a = true) (hb2 : okState b = true) (n : List UInt8) : vIn (mergeL base a b) n = mergeV base a b n := by
  have hg := mergeL_good hb ha hb2
  by_cases h : 0 ≤ mergeV base a b n
  · have hn : n ∈ names3 base a b := by
      rw [names3_mem]
      by_cases h1 : n ∈ namesOf base ∨ n ∈ namesOf a ∨ n ∈ namesOf b
      · exact h1
      · exfalso
        simp only [not_or] at h1
        unfold mergeV at h
        rw [vIn_out h1.1, vIn_out h1.2.1, vIn_out h1.2.2] at h
        simp at h
    exact vIn_mem hg.rise (x := ⟨n, mergeV base a b n⟩) (mergeL_mem.2 ⟨hn, h, rfl⟩)
  · have h1 : n ∉ namesOf (mergeL base a b) := fun hm => by
      simp only [namesOf, List.mem_map] at hm
      obtain ⟨x, hx, rfl⟩ := hm
      exact h (mergeL_mem.1 hx).2.1
    rw [vIn_out h1]
    have : -1 ≤ mergeV base a b n := by
      unfold mergeV; split
      · exact (vIn_ge hb2 _).1
      · exact (vIn_ge ha _).1
    omega
theorem confl_none (h : ∀ n, confB base a b n = false) : conflL base a b = [] := by
  unfold conflL; rw [List.filter_eq_nil_iff]; intro n _; rw [h n]; decide
theorem merge2_is {c : List NV} (hb : okState base = true) (ha : okState a = true) (hb2 : okState b = true) (hc : okState c = true) (h1 : ∀ n, confB base a b n = false) (h2 : ∀ n, mergeV base a b n = vIn c n) (hl : base.length + a.length + b.length ≤ 24) : mergeStates base a b = (c, 0) := by
  rw [mergeStates_ok (by simp [hb, ha, hb2])]
  have e : mergeL base a b = c := state_ext ((mergeL_good hb ha hb2).ok hl) hc (fun n => by rw [mergeL_vIn hb ha hb2, h2])
  unfold merge2
  rw [confl_none h1, e, if_neg (by simp), if_neg (by have := state_len hc; omega)]
theorem merge_left (hb : okState base = true) (ha : okState a = true) (hl : base.length + a.length + base.length ≤ 24) : mergeStates base a base = (a, 0) :=
  merge2_is hb ha hb ha (fun n => by simp [confB]) (fun n => by unfold mergeV; split <;> omega) hl
theorem merge_right (hb : okState base = true) (ha : okState a = true) (hl : base.length + base.length + a.length ≤ 24) : mergeStates base base a = (a, 0) :=
  merge2_is hb hb ha ha (fun n => by simp [confB]) (fun n => by unfold mergeV; rw [if_pos rfl]) hl
theorem merge_both (hb : okState base = true) (ha : okState a = true) (hl : base.length + a.length + a.length ≤ 24) : mergeStates base a a = (a, 0) :=
  merge2_is hb ha ha ha (fun n => by simp [confB]) (fun n => by unfold mergeV; split <;> rfl) hl
theorem names3_swap : names3 base a b = names3 base b a :=
  rises_ext (compact_sort _).1 (compact_sort _).1 (fun x => by
    have h1 := names3_mem (base := base) (a := a) (b := b) (n := x)
    have h2 := names3_mem (base := base) (a := b) (b := a) (n := x)
    show x ∈ names3 base a b ↔ x ∈ names3 base b a
    rw [h1, h2]
    constructor
    · rintro (h | h | h) <;> simp [h]
    · rintro (h | h | h) <;> simp [h])
theorem confB_swap (n : List UInt8) : confB base a b n = confB base b a n := by
  unfold confB
  rw [Bool.eq_iff_iff]
  simp only [Bool.and_eq_true, decide_eq_true_eq]
  constructor
  · rintro ⟨⟨h1, h2⟩, h3⟩; exact ⟨⟨fun e => h1 e.symm, h3⟩, h2⟩
  · rintro ⟨⟨h1, h2⟩, h3⟩; exact ⟨⟨fun e => h1 e.symm, h3⟩, h2⟩
theorem conflL_swap : conflL base a b = conflL base b a := by
  unfold conflL
  rw [names3_swap]
  exact List.filter_congr (fun n _ => confB_swap n)
theorem mergeV_swap {n : List UInt8} (h : confB base a b n = false) : mergeV base a b n = mergeV base b a n := by
  unfold confB at h
  simp only [Bool.and_eq_false_iff, decide_eq_false_iff_not, ne_eq, Decidable.not_not] at h
  unfold mergeV
  split <;> split <;> omega
theorem merge_swap (hb : okState base = true) (ha : okState a = true) (hb2 : okState b = true) : mergeStates base a b = mergeStates base b a := by
  rw [mergeStates_ok (by simp [hb, ha, hb2]), mergeStates_ok (by simp [hb, ha, hb2])]
  unfold merge2
  rw [← conflL_swap (base := base) (a := a) (b := b)]
  by_cases h : 0 < (conflL base a b).length
  · rw [if_pos h, if_pos h]
  · have hn : ∀ n ∈ names3 base a b, confB base a b n = false := fun n hm => by
      cases hc : confB base a b n with
      | false => rfl
      | true =>
        exact absurd (List.length_pos_of_mem (List.mem_filter.2 ⟨hm, hc⟩)) h
    have e : mergeL base a b = mergeL base b a := by
      unfold mergeL
      rw [← names3_swap (base := base) (a := a) (b := b)]
      have e1 : (names3 base a b).filter (fun n => decide (0 ≤ mergeV base a b n)) = (names3 base a b).filter (fun n => decide (0 ≤ mergeV base b a n)) := List.filter_congr (fun n hm => by rw [mergeV_swap (hn n hm)])
      rw [e1]
      apply List.map_congr_left
      intro n hm
      rw [mergeV_swap (hn n (List.mem_filter.1 hm).1)]
    rw [e]
theorem conf_len (hb : okState base = true) (ha : okState a = true) (hb2 : okState b = true) : conflictsOf base a b = (conflL base a b, 0) := by
  unfold conflictsOf; rw [if_pos (by simp [hb, ha, hb2])]
theorem merge_code (hb : okState base = true) (ha : okState a = true) (hb2 : okState b = true) : ((mergeStates base a b).2 = 6 ↔ 0 < (conflL base a b).length) ∧ ((mergeStates base a b).2 = 0 → okState (mergeStates base a b).1 = true) := by
  rw [mergeStates_ok (by simp [hb, ha, hb2])]
  unfold merge2
  by_cases h : 0 < (conflL base a b).length
  · rw [if_pos h]; simp [h]
  · rw [if_neg h]
    by_cases h2 : 24 < (mergeL base a b).length
    · rw [if_pos h2]; simp [h]
    · rw [if_neg h2]
      refine ⟨by simp [h], fun _ => ?_⟩
      have hg := mergeL_good hb ha hb2
      exact okState_of hg.one hg.rise (by show (mergeL base a b).length ≤ 24; omega)
end
theorem guard6 {x : Int} {l : Nat} (h : x = 6 ↔ 0 < l) : ((x == 6) != decide ((l : Int) > 0)) = false := by
  by_cases h9 : 0 < l
  · rw [h.2 h9, decide_eq_true (by omega)]; rfl
  · rw [decide_eq_false (by omega), beq_eq_false_iff_ne.2 (fun e => h9 (h.1 e))]; rfl
/-! Histories. -/
theorem vers_good {xs : List Ver} (h : okVers xs = true) : VersGood xs := by
  have hl := vers_len h
  refine ⟨by omega, fun v hv => ?_⟩
  obtain ⟨k, hk⟩ := List.getElem?_of_mem hv
  obtain ⟨_, _, _, h4, h5⟩ := ver_lim (ver_at h hk)
  have := state_len h5
  refine ⟨by unfold okMemo at h4; rw [Bool.and_eq_true, decide_eq_true_eq] at h4; omega, by omega, fun s hs => isName_len (set_lim h5 hs).1⟩
/-- A history as it is drawn. -/
def HG (xs : List Ver) : Prop := xs.length ≤ 5 ∧ ∀ (i : Nat) x, xs[i]? = some x → x.number = (i : Int) + 1 ∧ 0 ≤ x.parent ∧ x.parent ≤ i ∧ okMemo x.memo = true ∧ SG x.state (8 + 3 * i)
theorem HG.nil : HG [] := ⟨(by simp), (fun i x h => by simp at h)⟩
theorem HG.ok {xs : List Ver} (h : HG xs) : okVers xs = true := by
  unfold okVers
  rw [Bool.and_eq_true, decide_eq_true_eq]
  refine ⟨allI_of (fun k x hx => ?_), by have := h.1; omega⟩
  obtain ⟨h1, h2, h3, h4, h5⟩ := h.2 k x hx
  have hk := lt_of_get hx
  have := h.1
  simp only [okVer, Bool.and_eq_true, decide_eq_true_eq]
  exact ⟨⟨⟨h1, h2, h3⟩, h4⟩, h5.ok (by omega)⟩
theorem HG.add {xs : List Ver} (h : HG xs) (hl : xs.length < 5) {n p : Int} {memo : List UInt8} {st : List NV} (hn : n = (xs.length : Int) + 1) (h0 : 0 ≤ p) (h1 : p ≤ xs.length) (hm : okMemo memo = true) (hs : SG st (8 + 3 * xs.length)) : HG (xs ++ [⟨n, p, memo, st⟩]) := by
  refine ⟨by simp only [List.length_append, List.length_cons, List.length_nil]; omega, fun i x hx => ?_⟩
  by_cases hi : i < xs.length
  · rw [List.getElem?_append_left hi] at hx; exact h.2 i x hx
  · have hi2 : i = xs.length := by
      have := lt_of_get hx
      simp only [List.length_append, List.length_cons, List.length_nil] at this; omega
    subst hi2
    rw [List.getElem?_append_right (Nat.le_refl _), Nat.sub_self] at hx
    obtain rfl := Option.some.inj hx
    exact ⟨hn, h0, h1, hm, hs⟩
theorem memo_draw {m : List UInt8} (h : m ∈ [[], [110, 101, 119], [97, 32, 98]]) : okMemo m = true := by
  simp only [List.mem_cons, List.not_mem_nil, or_false] at h
  rcases h with rfl | rfl | rfl <;> decide
theorem merge_hist {xs : List Ver} {a b : Int} {memo : List UInt8} (h : okVers xs = true) (ha : inVers xs a = true) (hb : inVers xs b = true) (hm : okMemo memo = true) (hc : (mergeVersions xs a b memo).2 = 0) :
    (mergeVersions xs a b memo).1.length = xs.length + 1 ∧ okVers (mergeVersions xs a b memo).1 = true := by
  unfold mergeVersions at hc ⊢
  rw [if_pos (by simp [h, hm]), if_pos (by simp [ha, hb])] at hc ⊢
  by_cases h2 : (merge2V xs a b).2 ≠ 0
  · rw [if_pos h2] at hc; exact absurd hc h2
  · rw [if_neg h2] at hc ⊢
    simp only [ne_eq, Decidable.not_not] at h2
    have hs : okState (merge2V xs a b).1 = true := by
      have := (merge_code (stT_ok h (commonA xs a b)) (stT_ok h a) (stT_ok h b)).2
      rw [mergeStates_ok (by simp [stT_ok h])] at this
      exact this h2
    unfold addV at hc ⊢
    by_cases h32 : xs.length = 32
    · rw [if_pos h32] at hc; simp at hc
    · rw [if_neg h32]
      have hl := vers_len h
      simp only [inVers, Bool.and_eq_true, decide_eq_true_eq] at ha
      refine ⟨by simp, ?_⟩
      unfold okVers
      rw [Bool.and_eq_true, decide_eq_true_eq]
      refine ⟨allI_of (fun k x hx => ?_), by simp only [List.length_append, List.length_cons, List.length_nil]; omega⟩
      by_cases hi : k < xs.length
      · rw [List.getElem?_append_left hi] at hx; exact ver_at h hx
      · have hi2 : k = xs.length := by
          have := lt_of_get hx
          simp only [List.length_append, List.length_cons, List.length_nil] at this; omega
        subst hi2
        rw [List.getElem?_append_right (Nat.le_refl _), Nat.sub_self] at hx
        obtain rfl := Option.some.inj hx
        simp only [okVer, newVer, List.length_map, Bool.and_eq_true, decide_eq_true_eq]
        exact ⟨⟨⟨trivial, by omega, ha.2⟩, hm⟩, hs⟩
end Go.V
