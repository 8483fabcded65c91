/- Caches: what is kept, how often one misses; to drop what is needed farthest away is best. -/
import Derived.Test.YtdpanmnnfamfmaaD7
import Derived.Test.YtdpanmnnfamfmaaD16
import Derived.Test.YtdpanmnnfamfmaaD23
set_option linter.all false
namespace Go.V
open Go
section
variable {α : Type} [DecidableEq α]
/-- Where it comes next; -1. -/
def nxt (rest : List α) (x : α) : Int := idxOf (fun y => decide (x = y)) rest
theorem nxt_spec (x : α) : ∀ (rest : List α), (nxt rest x = -1 ∧ x ∉ rest) ∨ (nxt rest x = ((rest.idxOf x : Nat) : Int) ∧ x ∈ rest)
  | [] => .inl ⟨rfl, by simp⟩
  | a :: l => by
    by_cases h : x = a
    · subst h
      right
      refine ⟨?_, by simp⟩
      unfold nxt idxOf
      rw [List.findIdx?_cons, if_pos (by simp), List.idxOf_cons_self]
    · have e : (a :: l).idxOf x = l.idxOf x + 1 := by rw [List.idxOf_cons]; rw [show (a == x) = false by simpa using fun e => h e.symm]; rfl
      rcases nxt_spec x l with ⟨h1, h2⟩ | ⟨h1, h2⟩
      · left
        refine ⟨?_, by simp [h, h2]⟩
        unfold nxt idxOf at h1 ⊢
        rw [List.findIdx?_cons, if_neg (by simpa using h)]
        cases hf : List.findIdx? (fun y => decide (x = y)) l with
        | none => rfl
        | some i => rw [hf] at h1; simp at h1
      · right
        refine ⟨?_, by simp [h2]⟩
        rw [e]
        unfold nxt idxOf at h1 ⊢
        rw [List.findIdx?_cons, if_neg (by simpa using h)]
        cases hf : List.findIdx? (fun y => decide (x = y)) l with
        | none => rw [hf] at h1; simp at h1
        | some i => rw [hf] at h1; simp at h1 ⊢; omega
theorem nxt_at {c : List α} {x : α} (h : 0 ≤ nxt c x) : ∃ n : Nat, nxt c x = (n : Int) ∧ n < c.length ∧ c[n]? = some x := by
  rcases nxt_spec x c with ⟨h1, _⟩ | ⟨h1, h2⟩
  · omega
  · have hl := List.idxOf_lt_length_of_mem h2
    exact ⟨c.idxOf x, h1, hl, by rw [List.getElem?_eq_getElem hl, List.getElem_idxOf]⟩
theorem nxt_mem {c : List α} {x : α} : 0 ≤ nxt c x ↔ x ∈ c := by
  rcases nxt_spec x c with ⟨h1, h2⟩ | ⟨h1, h2⟩
  · exact ⟨fun h => by omega, fun h => absurd h h2⟩
  · exact ⟨fun _ => h2, fun _ => by omega⟩
/-- The last of those that are needed farthest away, among the first k; where it is needed. -/
def farTo (c rest : List α) : Nat → Int × Int
  | 0 => (0, -1)
  | k + 1 => match c[k]? with
    | some x => if nxt rest x > (farTo c rest k).2 then ((k : Int), nxt rest x) else farTo c rest k
    | none => farTo c rest k
theorem farTo_T {c rest : List α} {k : Nat} {x : α} (hx : c[k]? = some x) (h : nxt rest x > (farTo c rest k).2) : farTo c rest (k + 1) = ((k : Int), nxt rest x) := by simp only [farTo, hx, if_pos h]
theorem farTo_F {c rest : List α} {k : Nat} {x : α} (hx : c[k]? = some x) (h : ¬ nxt rest x > (farTo c rest k).2) : farTo c rest (k + 1) = farTo c rest k := by simp only [farTo, hx, if_neg h]
def lost (rest : List α) (x : α) : Bool := decide (nxt rest x < 0)
def farthest (c rest : List α) : Int := if c.any (lost rest) then idxOf (lost rest) c else (farTo c rest c.length).1
theorem farTo_spec {c rest : List α} (h : ∀ x ∈ c, lost rest x = false) : ∀ (k : Nat), k ≤ c.length → 0 < k →
    ∃ (n : Nat) (x : α), (farTo c rest k).1 = (n : Int) ∧ n < k ∧ c[n]? = some x ∧ (farTo c rest k).2 = nxt rest x ∧ ∀ (j : Nat) y, j < k → c[j]? = some y → nxt rest y ≤ nxt rest x
  | 0, _, h0 => by omega
  | k + 1, hk, _ => by
    obtain ⟨x, hx⟩ := get_some (xs := c) (k := k) (by omega)
    have hnx : 0 ≤ nxt rest x := by have := h x (List.mem_of_getElem? hx); simp only [lost, decide_eq_false_iff_not] at this; omega
    by_cases h0 : k = 0
    · subst h0
      have hT : farTo c rest (0 + 1) = ((0 : Int), nxt rest x) := farTo_T hx (by show nxt rest x > -1; omega)
      refine ⟨0, x, by rw [hT]; rfl, by omega, hx, by rw [hT], fun j y hj hy => ?_⟩
      obtain rfl : j = 0 := by omega
      rw [hx] at hy; obtain rfl := Option.some.inj hy; omega
    · obtain ⟨n, z, h1, h2, h3, h4, h5⟩ := farTo_spec h k (by omega) (by omega)
      by_cases hg : nxt rest x > (farTo c rest k).2
      · rw [farTo_T hx hg]
        refine ⟨k, x, rfl, by omega, hx, rfl, fun j y hj hy => ?_⟩
        by_cases e : j = k
        · subst e; rw [hx] at hy; obtain rfl := Option.some.inj hy; omega
        · have := h5 j y (by omega) hy; rw [h4] at hg; omega
      · rw [farTo_F hx hg]
        refine ⟨n, z, h1, by omega, h3, h4, fun j y hj hy => ?_⟩
        by_cases e : j = k
        · subst e; rw [hx] at hy; obtain rfl := Option.some.inj hy; rw [h4] at hg; omega
        · exact h5 j y (by omega) hy
theorem idxOf_lim (x : α) (l : List α) : l.idxOf x ≤ l.length := List.idxOf_le_length
theorem far_spec {c rest : List α} (hc : c ≠ []) : ∃ (n : Nat) (x : α), farthest c rest = (n : Int) ∧ n < c.length ∧ c[n]? = some x ∧ ∀ y ∈ c, rest.idxOf y ≤ rest.idxOf x := by
  unfold farthest
  split
  · next h =>
    rw [List.any_eq_true] at h
    have hex : ∃ i, c.findIdx? (lost rest) = some i := by
      cases hf : c.findIdx? (lost rest) with
      | some i => exact ⟨i, rfl⟩
      | none =>
        rw [List.findIdx?_eq_none_iff] at hf
        obtain ⟨x, hx, hp⟩ := h
        rw [hf x hx] at hp; cases hp
    obtain ⟨i, hi⟩ := hex
    have hi' := hi
    rw [List.findIdx?_eq_some_iff_getElem] at hi'
    obtain ⟨hlt, hp, _⟩ := hi'
    refine ⟨i, c[i], by unfold idxOf; rw [hi], hlt, List.getElem?_eq_getElem hlt, fun y _ => ?_⟩
    have hn : c[i] ∉ rest := by
      simp only [lost, decide_eq_true_eq] at hp
      rcases nxt_spec c[i] rest with ⟨_, h2⟩ | ⟨h1, _⟩
      · exact h2
      · omega
    rw [List.idxOf_eq_length hn]; exact idxOf_lim _ _
  · next h =>
    rw [Bool.not_eq_true, List.any_eq_false] at h
    have hl := List.length_pos_iff.2 hc
    obtain ⟨n, x, h1, h2, h3, h4, h5⟩ := farTo_spec (rest := rest) (fun x hx => by simpa using h x hx) c.length (Nat.le_refl _) hl
    refine ⟨n, x, h1, h2, h3, fun y hy => ?_⟩
    obtain ⟨j, hj⟩ := List.getElem?_of_mem hy
    have h6 := h5 j y (lt_of_get hj) hj
    have hx := h x (List.mem_of_getElem? h3)
    have hy := h y hy
    simp only [lost, decide_eq_true_eq] at hx hy
    rcases nxt_spec x rest with ⟨e, _⟩ | ⟨e, _⟩ <;> rcases nxt_spec y rest with ⟨e2, _⟩ | ⟨e2, _⟩ <;> omega
def atOf (pol : Int) (c rest : List α) : Nat := if pol = 3 then (farthest c rest).toNat else 0
theorem atOf_lt {pol : Int} {c rest : List α} (hc : c ≠ []) : atOf pol c rest < c.length := by
  have hl := List.length_pos_iff.2 hc
  unfold atOf
  split
  · obtain ⟨n, x, h1, h2, _⟩ := far_spec (rest := rest) hc; rw [h1]; simpa using h2
  · exact hl
variable {sz : α → Int} {pol cap : Int}
def total (sz : α → Int) (c : List α) : Int := (c.map sz).sum
theorem total_erase {c : List α} {k : Nat} {x : α} (h : c[k]? = some x) : total sz (c.eraseIdx k) = total sz c - sz x := by
  induction c generalizing k with
  | nil => simp at h
  | cons a l ih =>
    cases k with
    | zero => simp at h; subst h; simp [total]; omega
    | succ k => simp at h; have := ih h; simp only [total, List.eraseIdx_cons_succ, List.map_cons, List.sum_cons] at this ⊢; omega
theorem total_snoc (c : List α) (x : α) : total sz (c ++ [x]) = total sz c + sz x := by simp [total]
theorem total_ge {c : List α} (h : ∀ x ∈ c, 1 ≤ sz x) : (c.length : Int) ≤ total sz c := by
  induction c with
  | nil => simp [total]
  | cons a l ih =>
    have h1 := ih (fun x hx => h x (by simp [hx]))
    have h2 := h a (by simp)
    simp only [total, List.map_cons, List.sum_cons, List.length_cons] at h1 ⊢; omega
/-- To drop till there is room. -/
def shedL (sz : α → Int) (pol cap size : Int) (rest : List α) : Nat → List α → Int → List α × Int
  | 0, c, u => (c, u)
  | n + 1, c, u => if u + size > cap then (match c[atOf pol c rest]? with
    | some x => shedL sz pol cap size rest n (c.eraseIdx (atOf pol c rest)) (u - sz x)
    | none => (c, u)) else (c, u)
theorem shedL_exit {size : Int} {rest c : List α} {u : Int} (h : ¬ u + size > cap) : ∀ n, shedL sz pol cap size rest n c u = (c, u)
  | 0 => rfl
  | n + 1 => by simp only [shedL, if_neg h]
theorem shedL_go {size : Int} {rest c : List α} {u : Int} {x : α} (h : u + size > cap) (hx : c[atOf pol c rest]? = some x) :
    shedL sz pol cap size rest c.length c u = shedL sz pol cap size rest (c.eraseIdx (atOf pol c rest)).length (c.eraseIdx (atOf pol c rest)) (u - sz x) := by
  have hl := lt_of_get hx
  obtain ⟨n, hn⟩ : ∃ n, c.length = n + 1 := ⟨c.length - 1, by omega⟩
  rw [List.length_eraseIdx_of_lt hl, hn]
  simp only [shedL, if_pos h, hx, Nat.add_sub_cancel]
/-- One use. -/
def stepC (sz : α → Int) (pol cap : Int) (rest : List α) (x : α) (s : List α × Int × Int) : List α × Int × Int :=
  if 0 ≤ nxt s.1 x then (if pol = 2 then (s.1.eraseIdx (nxt s.1 x).toNat ++ [x], s.2.1, s.2.2) else s)
  else if sz x > cap then (s.1, s.2.1, s.2.2 + 1)
  else ((shedL sz pol cap (sz x) rest s.1.length s.1 s.2.1).1 ++ [x], (shedL sz pol cap (sz x) rest s.1.length s.1 s.2.1).2 + sz x, s.2.2 + 1)
def runL (sz : α → Int) (pol cap : Int) : List α → List α × Int × Int → List α × Int × Int
  | [], s => s
  | x :: us, s => runL sz pol cap us (stepC sz pol cap us x s)
/-- A cache that is not too full. -/
structure CGood (sz : α → Int) (cap : Int) (all c : List α) (u : Int) : Prop where
  sum : u = total sz c
  le : u ≤ cap
  sub : ∀ x ∈ c, x ∈ all
  nd : c.Nodup
theorem CGood.erase {all c : List α} {u : Int} (h : CGood sz cap all c u) (hp : ∀ x ∈ all, 1 ≤ sz x) {k : Nat} {x : α} (hx : c[k]? = some x) : CGood sz cap all (c.eraseIdx k) (u - sz x) := by
  have h1 := hp x (h.sub x (List.mem_of_getElem? hx))
  have hs : (c.eraseIdx k).Sublist c := List.eraseIdx_sublist c k
  exact ⟨by rw [total_erase hx, h.sum], by have := h.le; omega, fun y hy => h.sub y (hs.subset hy), hs.nodup h.nd⟩
theorem CGood.room {all c : List α} {u size : Int} (h : CGood sz cap all c u) (hs : size ≤ cap) (hg : u + size > cap) : c ≠ [] := by
  rintro rfl
  have := h.sum
  simp [total] at this; omega
theorem shedL_good {all : List α} {rest : List α} {size : Int} (hp : ∀ x ∈ all, 1 ≤ sz x) (hs : size ≤ cap) : ∀ (n : Nat) (c : List α) (u : Int), c.length = n → CGood sz cap all c u →
    CGood sz cap all (shedL sz pol cap size rest n c u).1 (shedL sz pol cap size rest n c u).2 ∧ (shedL sz pol cap size rest n c u).2 + size ≤ cap ∧ (shedL sz pol cap size rest n c u).1.Sublist c
  | 0, c, u, hn, h => by
    refine ⟨h, ?_, List.Sublist.refl _⟩
    show u + size ≤ cap
    by_cases hg : u + size > cap
    · exact absurd (List.length_eq_zero_iff.1 hn) (h.room hs hg)
    · omega
  | n + 1, c, u, hn, h => by
    by_cases hg : u + size > cap
    · have hlt := atOf_lt (pol := pol) (rest := rest) (h.room hs hg)
      obtain ⟨x, hx⟩ := get_some hlt
      simp only [shedL, if_pos hg, hx]
      obtain ⟨h1, h2, h3⟩ := shedL_good hp hs n _ _ (by rw [List.length_eraseIdx_of_lt hlt]; omega) (h.erase hp hx)
      exact ⟨h1, h2, h3.trans (List.eraseIdx_sublist c _)⟩
    · simp only [shedL, if_neg hg]
      exact ⟨h, by omega, List.Sublist.refl _⟩
theorem nodup_snoc {c : List α} {x : α} (h : c.Nodup) (hx : x ∉ c) : (c ++ [x]).Nodup := by
  rw [List.nodup_append]
  exact ⟨h, by simp, fun a ha b hb e => by rw [List.mem_singleton] at hb; subst hb; subst e; exact hx ha⟩
theorem not_mem_erase {c : List α} (h : c.Nodup) {k : Nat} {x : α} (hx : c[k]? = some x) : x ∉ c.eraseIdx k := by
  induction c generalizing k with
  | nil => simp at hx
  | cons a l ih =>
    rw [List.nodup_cons] at h
    cases k with
    | zero => simp at hx; subst hx; simpa using h.1
    | succ k =>
      simp at hx
      rw [List.eraseIdx_cons_succ, List.mem_cons]
      rintro (e | e)
      · subst e; exact h.1 (List.mem_of_getElem? hx)
      · exact ih h.2 hx e
theorem mem_erase_ne {c : List α} {k : Nat} {x y : α} (hx : c[k]? = some x) (hy : y ∈ c) (hne : y ≠ x) : y ∈ c.eraseIdx k := by
  induction c generalizing k with
  | nil => simp at hx
  | cons a l ih =>
    cases k with
    | zero =>
      simp at hx; subst hx
      rcases List.mem_cons.1 hy with e | e
      · exact absurd e hne
      · simpa using e
    | succ k =>
      simp at hx
      rw [List.eraseIdx_cons_succ, List.mem_cons]
      rcases List.mem_cons.1 hy with e | e
      · exact .inl e
      · exact .inr (ih hx e)
/-- What one use does. -/
structure StepR (sz : α → Int) (cap : Int) (all : List α) (x : α) (s s2 : List α × Int × Int) : Prop where
  good : CGood sz cap all s2.1 s2.2.1
  sub : ∀ y ∈ s2.1, y = x ∨ y ∈ s.1
  cnt : s2.2.2 = s.2.2 + (if x ∈ s.1 then 0 else 1)
theorem step_good {all rest : List α} {x : α} {s : List α × Int × Int} (hp : ∀ x ∈ all, 1 ≤ sz x) (hx : x ∈ all) (h : CGood sz cap all s.1 s.2.1) : StepR sz cap all x s (stepC sz pol cap rest x s) := by
  unfold stepC
  by_cases hm : 0 ≤ nxt s.1 x
  · have hmem := nxt_mem.1 hm
    rw [if_pos hm]
    split
    · obtain ⟨n, e, hn, hg⟩ := nxt_at hm
      rw [e, Int.toNat_natCast]
      have he := h.erase hp hg
      have hnot := not_mem_erase h.nd hg
      refine ⟨⟨?_, h.le, ?_, nodup_snoc he.nd hnot⟩, ?_, by rw [if_pos hmem, Int.add_zero]⟩
      · show s.2.1 = _; rw [total_snoc, ← he.sum]; omega
      · intro y hy
        rcases List.mem_append.1 hy with hy | hy
        · exact he.sub y hy
        · rw [List.mem_singleton] at hy; subst hy; exact hx
      · intro y hy
        rcases List.mem_append.1 hy with hy | hy
        · exact .inr ((List.eraseIdx_sublist _ _).subset hy)
        · exact .inl (List.mem_singleton.1 hy)
    · exact ⟨h, fun y hy => .inr hy, by rw [if_pos hmem]; omega⟩
  · have hmem : x ∉ s.1 := fun e => hm (nxt_mem.2 e)
    rw [if_neg hm]
    split
    · exact ⟨h, fun y hy => .inr hy, by rw [if_neg hmem]⟩
    · next hs =>
      obtain ⟨h1, h2, h3⟩ := shedL_good (pol := pol) (rest := rest) hp (show sz x ≤ cap by omega) s.1.length s.1 s.2.1 rfl h
      refine ⟨⟨?_, by show _ + sz x ≤ cap; omega, ?_, nodup_snoc h1.nd (fun e => hmem (h3.subset e))⟩, ?_, by rw [if_neg hmem]⟩
      · rw [total_snoc, ← h1.sum]
      · intro y hy
        rcases List.mem_append.1 hy with hy | hy
        · exact h1.sub y hy
        · rw [List.mem_singleton] at hy; subst hy; exact hx
      · intro y hy
        rcases List.mem_append.1 hy with hy | hy
        · exact .inr (h3.subset hy)
        · exact .inl (List.mem_singleton.1 hy)
theorem run_good {all : List α} (hp : ∀ x ∈ all, 1 ≤ sz x) : ∀ (us : List α) (s : List α × Int × Int), (∀ x ∈ us, x ∈ all) → CGood sz cap all s.1 s.2.1 →
    CGood sz cap all (runL sz pol cap us s).1 (runL sz pol cap us s).2.1 ∧ s.2.2 ≤ (runL sz pol cap us s).2.2 ∧ (runL sz pol cap us s).2.2 ≤ s.2.2 + us.length
  | [], s, _, h => ⟨h, Int.le_refl _, by simp [runL]⟩
  | x :: us, s, hu, h => by
    have hst := step_good (pol := pol) (rest := us) hp (hu x (by simp)) h
    obtain ⟨h1, h2, h3⟩ := run_good hp us _ (fun y hy => hu y (by simp [hy])) hst.good
    have hc := hst.cnt
    simp only [runL]
    refine ⟨h1, ?_, ?_⟩
    · split at hc <;> omega
    · rw [List.length_cons]; split at hc <;> omega
/-- Each file that is not there misses once at least. -/
theorem run_least {all : List α} (hp : ∀ x ∈ all, 1 ≤ sz x) : ∀ (us : List α) (s : List α × Int × Int) (D : List α), (∀ x ∈ us, x ∈ all) → CGood sz cap all s.1 s.2.1 → D.Nodup → (∀ x ∈ D, x ∈ us) → (∀ x ∈ D, x ∉ s.1) →
    s.2.2 + D.length ≤ (runL sz pol cap us s).2.2
  | [], s, D, _, _, _, hD, _ => by
    have : D = [] := List.eq_nil_iff_forall_not_mem.2 (fun x hx => by simpa using hD x hx)
    subst this; simp [runL]
  | x :: us, s, D, hu, h, hd, hD, hn => by
    have hst := step_good (pol := pol) (rest := us) hp (hu x (by simp)) h
    have hc := hst.cnt
    simp only [runL]
    by_cases hx : x ∈ D
    · have hxs := hn x hx
      rw [if_neg hxs] at hc
      have ih := run_least hp us (stepC sz pol cap us x s) (D.erase x) (fun y hy => hu y (by simp [hy])) hst.good (hd.erase x) (fun y hy => by
        have hy2 := (hd.mem_erase_iff).1 hy
        exact (List.mem_cons.1 (hD y hy2.2)).resolve_left hy2.1) (fun y hy e => by
        have hy2 := (hd.mem_erase_iff).1 hy
        rcases hst.sub y e with e2 | e2
        · exact hy2.1 e2
        · exact hn y hy2.2 e2)
      rw [List.length_erase_of_mem hx] at ih
      have := List.length_pos_of_mem hx
      omega
    · have ih := run_least hp us (stepC sz pol cap us x s) D (fun y hy => hu y (by simp [hy])) hst.good hd (fun y hy => (List.mem_cons.1 (hD y hy)).resolve_left (fun e => hx (e ▸ hy))) (fun y hy e => by
        rcases hst.sub y e with e2 | e2
        · exact hx (e2 ▸ hy)
        · exact hn y hy e2)
      split at hc <;> omega
theorem nodup_le : ∀ {l l' : List α}, l.Nodup → (∀ x ∈ l, x ∈ l') → l.length ≤ l'.length
  | [], _, _, _ => Nat.zero_le _
  | a :: l, l', h, hs => by
    rw [List.nodup_cons] at h
    have ha := hs a (by simp)
    have := nodup_le (l := l) (l' := l'.erase a) h.2 (fun x hx => (List.mem_erase_of_ne (fun e => h.1 (by rw [← e]; exact hx))).2 (hs x (by simp [hx])))
    rw [List.length_erase_of_mem ha] at this
    have := List.length_pos_of_mem ha
    rw [List.length_cons]; omega
theorem total_unit {c : List α} {q : Int} (h : ∀ x ∈ c, sz x = q) : total sz c = q * c.length := by
  induction c with
  | nil => simp [total]
  | cons a l ih =>
    have h1 := ih (fun x hx => h x (by simp [hx]))
    have h2 := h a (by simp)
    simp only [total, List.map_cons, List.sum_cons, List.length_cons] at h1 ⊢
    rw [h1, h2, Int.natCast_add, Int.mul_add]; omega
/-- Of files of one size so many have room. -/
theorem CGood.len {all c : List α} {u : Int} {m : Nat} (hsz : ∀ x ∈ all, sz x = 5) (hm : (m : Int) = cap / 5) (h : CGood sz cap all c u) : c.length ≤ m := by
  have h1 := total_unit (sz := sz) (q := 5) (c := c) (fun x hx => hsz x (h.sub x hx))
  have h2 := h.sum; have h3 := h.le
  omega
theorem run_crun {all : List α} {m : Nat} (hsz : ∀ x ∈ all, sz x = 5) (hm : (m : Int) = cap / 5) (hc : 5 ≤ cap) : ∀ (us : List α) (s : List α × Int × Int), (∀ x ∈ us, x ∈ all) → CGood sz cap all s.1 s.2.1 →
    ∃ n : Nat, CRun m s.1 us n ∧ (runL sz pol cap us s).2.2 = s.2.2 + n
  | [], s, _, _ => ⟨0, .nil _, by simp [runL]⟩
  | x :: us, s, hu, h => by
    have hp : ∀ x ∈ all, 1 ≤ sz x := fun x hx => by rw [hsz x hx]; omega
    have hxa := hu x (by simp)
    have hst := step_good (pol := pol) (rest := us) hp hxa h
    obtain ⟨n, h1, h2⟩ := run_crun hsz hm hc us (stepC sz pol cap us x s) (fun y hy => hu y (by simp [hy])) hst.good
    have hcn := hst.cnt
    have hlen := hst.good.len hsz hm
    have hin : x ∈ (stepC sz pol cap us x s).1 := by
      unfold stepC
      by_cases hm2 : 0 ≤ nxt s.1 x
      · rw [if_pos hm2]; split
        · simp
        · exact nxt_mem.1 hm2
      · rw [if_neg hm2, if_neg (by rw [hsz x hxa]; omega)]; simp
    simp only [runL]
    by_cases hx : x ∈ s.1
    · rw [if_pos hx] at hcn
      exact ⟨n, .hit hx (fun y hy => by rcases hst.sub y hy with e | e; (rw [e]; exact hx); exact e) hin hlen h1, by omega⟩
    · rw [if_neg hx] at hcn
      exact ⟨n + 1, .miss hx hst.sub hin hlen h1, by omega⟩
theorem drop_one {all rest c : List α} {u : Int} {m : Nat} (hsz : ∀ x ∈ all, sz x = 5) (hm : (m : Int) = cap / 5) (h : CGood sz cap all c u) :
    (c.length + 1 ≤ m ∧ (shedL sz pol cap 5 rest c.length c u).1 = c) ∨ (c.length = m ∧ (cap < 5 ∨ ∃ y, c[atOf pol c rest]? = some y ∧ (shedL sz pol cap 5 rest c.length c u).1 = c.eraseIdx (atOf pol c rest))) := by
  have h1 := total_unit (sz := sz) (q := 5) (c := c) (fun x hx => hsz x (h.sub x hx))
  have h2 := h.sum; have h3 := h.le
  have hl := h.len hsz hm
  by_cases hg : u + 5 > cap
  · right
    refine ⟨by omega, ?_⟩
    by_cases hc : cap < 5
    · exact .inl hc
    · right
      have hne := h.room (size := 5) (by omega) hg
      obtain ⟨y, hy⟩ := get_some (atOf_lt (pol := pol) (rest := rest) hne)
      refine ⟨y, hy, ?_⟩
      rw [shedL_go hg hy, shedL_exit (by rw [hsz y (h.sub y (List.mem_of_getElem? hy))]; omega)]
  · left
    exact ⟨by omega, by rw [shedL_exit hg]⟩
/-- To drop what is needed farthest away is best. -/
theorem run_best {all : List α} {m : Nat} (hsz : ∀ x ∈ all, sz x = 5) (hm : (m : Int) = cap / 5) (hc : 5 ≤ cap) : ∀ (us : List α) (s : List α × Int × Int) (n : Nat), (∀ x ∈ us, x ∈ all) → CGood sz cap all s.1 s.2.1 → CRun m s.1 us n →
    (runL sz 3 cap us s).2.2 ≤ s.2.2 + n
  | [], s, n, _, _, _ => by simp only [runL]; omega
  | x :: us, s, n, hu, h, hr => by
    have hp : ∀ x ∈ all, 1 ≤ sz x := fun x hx => by rw [hsz x hx]; omega
    have hxa := hu x (by simp)
    have hst := step_good (pol := 3) (rest := us) hp hxa h
    have hcn := hst.cnt
    have hlen := hst.good.len hsz hm
    have hua : ∀ y ∈ us, y ∈ all := fun y hy => hu y (by simp [hy])
    simp only [runL]
    cases hr with
    | @hit _ C2 _ _ _ hx h1 h2 hl hr =>
      rw [if_pos hx] at hcn
      have e : stepC sz 3 cap us x s = s := by unfold stepC; rw [if_pos (nxt_mem.2 hx), if_neg (by decide)]
      rw [e]
      obtain ⟨n2, h3, h4⟩ := hr.more h1
      have := run_best hsz hm hc us s n2 hua h h4
      omega
    | @miss _ C2 _ _ n hx h1 h2 hl hr =>
      rw [if_neg hx] at hcn
      have key : ∃ n2, n2 ≤ n ∧ CRun m (stepC sz 3 cap us x s).1 us n2 := by
        have e : (stepC sz 3 cap us x s).1 = (shedL sz 3 cap 5 us s.1.length s.1 s.2.1).1 ++ [x] := by
          unfold stepC; rw [if_neg (fun e => hx (nxt_mem.1 e)), if_neg (by rw [hsz x hxa]; omega), hsz x hxa]
        rcases drop_one (pol := 3) (rest := us) hsz hm h with ⟨_, ed⟩ | ⟨hfull, hc2 | ⟨y, hy, ed⟩⟩
        · rw [e, ed]
          exact hr.more (fun z hz => by rcases h1 z hz with e | e; (rw [e]; simp); simp [e])
        · omega
        · rw [ed] at e
          rw [e] at hlen ⊢
          have hsub : ∀ z ∈ C2, z = y ∨ z ∈ s.1.eraseIdx (atOf 3 s.1 us) ++ [x] := fun z hz => by
            by_cases hzy : z = y
            · exact .inl hzy
            · right
              rcases h1 z hz with e | e
              · rw [e]; simp
              · exact List.mem_append.2 (.inl (mem_erase_ne hy e hzy))
          by_cases hyC : y ∈ C2
          case neg => exact hr.more (fun z hz => (hsub z hz).resolve_left (fun e => hyC (e ▸ hz)))
          have hnd : (s.1.eraseIdx (atOf 3 s.1 us) ++ [x]).Nodup := by
            refine nodup_snoc ((List.eraseIdx_sublist _ _).nodup h.nd) (fun e => hx ((List.eraseIdx_sublist _ _).subset e))
          have hyn : y ∉ s.1.eraseIdx (atOf 3 s.1 us) ++ [x] := by
            intro e
            rcases List.mem_append.1 e with e | e
            · exact not_mem_erase h.nd hy e
            · rw [List.mem_singleton] at e; subst e; exact hx (List.mem_of_getElem? hy)
          have hl3 : (s.1.eraseIdx (atOf 3 s.1 us) ++ [x]).length = m := by
            rw [List.length_append, List.length_eraseIdx_of_lt (lt_of_get hy)]
            have := lt_of_get hy
            simp; omega
          have hex : ∃ z, z ∈ s.1.eraseIdx (atOf 3 s.1 us) ++ [x] ∧ z ∉ C2 := by
            apply Classical.byContradiction
            intro hno
            have hall : ∀ z ∈ y :: (s.1.eraseIdx (atOf 3 s.1 us) ++ [x]), z ∈ C2 := by
              intro z hz
              rcases List.mem_cons.1 hz with e | e
              · rw [e]; exact hyC
              · apply Classical.byContradiction; intro hz2; exact hno ⟨z, e, hz2⟩
            have := nodup_le (List.nodup_cons.2 ⟨hyn, hnd⟩) hall
            rw [List.length_cons] at this; omega
          obtain ⟨z, hz, hzC⟩ := hex
          have hzs : z ∈ s.1 := by
            rcases List.mem_append.1 hz with e | e
            · exact (List.eraseIdx_sublist _ _).subset e
            · rw [List.mem_singleton] at e; subst e; exact absurd h2 hzC
          have hne : s.1 ≠ [] := fun e => by rw [e] at hzs; cases hzs
          obtain ⟨k, w, f1, f2, f3, f4⟩ := far_spec (rest := us) hne
          have hat : atOf 3 s.1 us = k := by unfold atOf; rw [if_pos rfl, f1]; rfl
          rw [hat, f3] at hy
          obtain rfl := Option.some.inj hy
          exact hr.swap (by omega) hsub hz hzC (f4 z hzs)
      obtain ⟨n2, h3, h4⟩ := key
      have := run_best hsz hm hc us _ n2 hua hst.good h4
      omega
/-- Without room each use misses. -/
theorem run_none {all : List α} (hsz : ∀ x ∈ all, sz x = 5) (hc : cap < 5) : ∀ (us : List α) (k : Int), (∀ x ∈ us, x ∈ all) → (runL sz pol cap us ([], 0, k)).2.2 = k + us.length
  | [], k, _ => by simp [runL]
  | x :: us, k, hu => by
    have e : stepC sz pol cap us x ([], 0, k) = ([], 0, k + 1) := by
      unfold stepC
      rw [if_neg (by simp [nxt, idxOf]), if_pos (by rw [hsz x (hu x (by simp))]; omega)]
    simp only [runL]
    rw [e, run_none hsz hc us (k + 1) (fun y hy => hu y (by simp [hy])), List.length_cons]
    omega
end
end Go.V
