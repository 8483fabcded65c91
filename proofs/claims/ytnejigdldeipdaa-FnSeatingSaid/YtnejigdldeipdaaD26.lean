/- Where the searches for the most persons stand, round by round. -/
import Derived.Test.YtnejigdldeipdaaD25
set_option linter.all false
namespace Go.V
open Go
def MostJ (f : List Int → List Int → Int → MSt → Option MSt) (p bh : Int) (free pl : List Int) (sd : Int) (M : Option MSt) (k : Nat) (s : MSt) : Prop :=
  k ≤ free.length ∧ mostLoop f p bh free pl sd (free.length - k) s = M ∧ 0 ≤ s.left ∧ s.left ≤ 20000
section
variable {f : List Int → List Int → Int → MSt → Option MSt} {p bh sd z : Int} {s : MSt} {free pl : List Int} {M : Option MSt} {k : Nat}
theorem mostJ_skip (h : MostJ f p bh free pl sd M k s) (hz : free[k]? = some z) (hc : z < p ∨ sd + p + bh ≤ s.most) : MostJ f p bh free pl sd M (k + 1) s :=
  ⟨lt_of_get hz, (mostLoop_skip hz hc).symm.trans h.2.1, h.2.2⟩
theorem mostJ_full (h : MostJ f p bh free pl sd M k s) (hz : free[k]? = some z) (h1 : ¬ z < p) (h2 : ¬ sd + p + bh ≤ s.most) (h0 : s.left = 0) : M = none :=
  h.2.1.symm.trans (mostLoop_full hz h1 h2 h0)
theorem mostJ_fail (h : MostJ f p bh free pl sd M k s) (hz : free[k]? = some z) (h1 : ¬ z < p) (h2 : ¬ sd + p + bh ≤ s.most) (h0 : s.left ≠ 0) (hf : f (free.set k (z - p)) (pl ++ [(k : Int)]) (sd + p) ⟨s.best, s.most, s.left - 1⟩ = none) : M = none :=
  h.2.1.symm.trans (mostLoop_none hz h1 h2 h0 hf)
theorem mostJ_next (h : MostJ f p bh free pl sd M k s) (hl : ∀ a b c s t, 0 ≤ s.left → f a b c s = some t → 0 ≤ t.left ∧ t.left ≤ s.left) (hz : free[k]? = some z) (h1 : ¬ z < p) (h2 : ¬ sd + p + bh ≤ s.most) (h0 : s.left ≠ 0)
    {fr2 pl2 b2 : List Int} {m2 l2 : Int} (hR : MostR (f (free.set k (z - p)) (pl ++ [(k : Int)]) (sd + p) ⟨s.best, s.most, s.left - 1⟩) (free.set k (z - p)) (pl ++ [(k : Int)]) fr2 pl2 b2 m2 l2)
    (hs : isS (f (free.set k (z - p)) (pl ++ [(k : Int)]) (sd + p) ⟨s.best, s.most, s.left - 1⟩) = true) : fr2 = free.set k (z - p) ∧ pl2 = pl ++ [(k : Int)] ∧ MostJ f p bh free pl sd M (k + 1) ⟨b2, m2, l2⟩ := by
  obtain ⟨t, ht⟩ := isS_some hs
  have hR2 := hR.2
  rw [ht] at hR2
  obtain ⟨e1, e2, e3⟩ := hR2
  have hb := hl _ _ _ ⟨s.best, s.most, s.left - 1⟩ t (by show 0 ≤ s.left - 1; have := h.2.2.1; omega) ht
  subst e3
  refine ⟨e1, e2, lt_of_get hz, (mostLoop_some hz h1 h2 h0 ht).symm.trans h.2.1, hb.1, ?_⟩
  have h3 := h.2.2.2
  have h4 : l2 ≤ s.left - 1 := hb.2
  show l2 ≤ 20000
  omega
theorem mostJ_end (h : MostJ f p bh free pl sd M free.length s) : M = some s := by
  have h1 := h.2.1
  rw [Nat.sub_self] at h1
  exact h1.symm
end
theorem remS_sum {gs : List Group} {m : Nat} : (remS gs m).sum = sumP (gs.drop m) := by unfold remS sumP; rw [List.map_drop]
def afterL (gs : List Group) (free pl : List Int) (sd : Int) : Option MSt → Option MSt
  | none => none
  | some s' => if sd + sumP (gs.drop (pl.length + 1)) ≤ s'.most then some s' else if s'.left = 0 then none else mostS (remS gs (pl.length + 1)) free (pl ++ [-1]) sd ⟨s'.best, s'.most, s'.left - 1⟩
theorem mostS_cons {gs : List Group} {free pl : List Int} {sd : Int} {s : MSt} {g : Group} {M : Option MSt} (hg : gs[pl.length]? = some g) (hM : mostLoop (mostS (remS gs (pl.length + 1))) g.persons (sumP (gs.drop (pl.length + 1))) free pl sd free.length s = M) :
    mostS (remS gs pl.length) free pl sd s = afterL gs free pl sd M := by
  rw [rem_cons hg, mostS, remS_sum, hM]
  cases M with
  | none => rfl
  | some s' => rfl
theorem sumP_drop {gs : List Group} {m : Nat} {g : Group} (hg : gs[m]? = some g) : sumP (gs.drop m) = g.persons + sumP (gs.drop (m + 1)) := by
  rw [← remS_sum, rem_cons hg, List.sum_cons, remS_sum]
theorem sumP_lim {gs : List Group} (h : okGroups gs = true) (m : Nat) : 0 ≤ sumP (gs.drop m) ∧ sumP (gs.drop m) ≤ 480 := by
  have h1 := sumP_bound (gs := gs.drop m) (fun g hg => by
    obtain ⟨j, hj⟩ := List.getElem?_of_mem (List.mem_of_mem_drop hg)
    have := group_lim (groups_at h hj); omega)
  have h2 := groups_len h
  have h3 : (gs.drop m).length ≤ gs.length := by simp
  omega
theorem sumP_mid {gs : List Group} {a k : Nat} {g : Group} (hk : gs[k]? = some g) (ha : a ≤ k) : sumP ((gs.take (k + 1)).drop a) = sumP ((gs.take k).drop a) + g.persons := by
  have hlt := lt_of_get hk
  rw [take_snoc hk, List.drop_append_of_le_length (by rw [List.length_take]; omega)]; simp [sumP]
/-- The other side. -/
def RunR (s : Option MSt) (bu : Int) (b2 : List Int) (m2 n2 : Int) (f2 : Bool) : Prop := (0 ≤ n2 ∧ n2 ≤ bu) ∧ match s with
  | some t => t = ⟨b2, m2, bu - n2⟩ ∧ f2 = false
  | none => f2 = true
def RunJ (f : List Int → List Int → Int → MSt → Option MSt) (p bh : Int) (free pl : List Int) (sd bu : Int) (M : Option MSt) (k : Nat) (b : List Int) (m n : Int) (fu : Bool) : Prop :=
  k ≤ free.length ∧ (0 ≤ n ∧ n ≤ bu) ∧ ((fu = false ∧ mostLoop f p bh free pl sd (free.length - k) ⟨b, m, bu - n⟩ = M) ∨ (fu = true ∧ M = none))
/-- What the round's test hands on. -/
def RunD (z p c m bu n : Int) (fu : Bool) (out : Bool) (n2 : Int) (f2 : Bool) : Prop := (out = true ∧ n2 = n ∧ f2 = fu ∧ (z < p ∨ c ≤ m)) ∨ ((¬ z < p ∧ ¬ c ≤ m) ∧ NodeR n bu fu n2 f2 (!out))
def RunE (c m bu n : Int) (fu : Bool) (out : Bool) (n2 : Int) (f2 : Bool) : Prop := (out = false ∧ n2 = n ∧ f2 = fu ∧ c ≤ m) ∨ (¬ c ≤ m ∧ NodeR n bu fu n2 f2 out)
section
variable {f : List Int → List Int → Int → MSt → Option MSt} {p bh sd z bu m n n2 : Int} {free pl b : List Int} {M : Option MSt} {k : Nat} {fu f2 : Bool}
theorem runJ_out (h : RunJ f p bh free pl sd bu M k b m n fu) (hz : free[k]? = some z) (hd : RunD z p (sd + p + bh) m bu n fu true n2 f2) : RunJ f p bh free pl sd bu M (k + 1) b m n2 f2 := by
  have hk := lt_of_get hz
  obtain ⟨h1, h2, h3⟩ := h
  rcases hd with ⟨_, e1, e2, hc⟩ | ⟨hc, hn⟩
  · subst e1 e2
    refine ⟨hk, h2, h3.imp (fun h => ⟨h.1, ?_⟩) id⟩
    rw [← h.2]; exact (mostLoop_skip hz hc).symm
  · rcases hn with ⟨_, e2, e3, e4⟩ | ⟨hb, _⟩
    · subst e3
      refine ⟨hk, h2, .inr ⟨e2, ?_⟩⟩
      rcases h3 with ⟨h4, h5⟩ | ⟨_, h5⟩
      · rcases e4 with e4 | e4
        · rw [h4] at e4; cases e4
        · rw [← h5]; exact mostLoop_full hz hc.1 hc.2 (by show bu - n2 = 0; omega)
      · exact h5
    · cases hb
theorem runD_go (hd : RunD z p (sd + p + bh) m bu n fu false n2 f2) : ¬ z < p ∧ ¬ sd + p + bh ≤ m ∧ f2 = false ∧ n2 = n + 1 ∧ fu = false ∧ n ≠ bu := by
  rcases hd with ⟨hb, _⟩ | ⟨hc, hn⟩
  · cases hb
  · rcases hn with ⟨hb, _⟩ | ⟨_, h1, h2, h3, h4⟩
    · cases hb
    · exact ⟨hc.1, hc.2, h1, h2, h3, h4⟩
theorem runJ_go (h : RunJ f p bh free pl sd bu M k b m n fu) (hfu : fu = false) : mostLoop f p bh free pl sd (free.length - k) ⟨b, m, bu - n⟩ = M := by
  rcases h.2.2 with ⟨_, h2⟩ | ⟨h1, _⟩
  · exact h2
  · rw [hfu] at h1; cases h1
theorem runJ_next (h : RunJ f p bh free pl sd bu M k b m n fu) (hfu : fu = false) (hnd : n ≠ bu) (hz : free[k]? = some z) (h1 : ¬ z < p) (h2 : ¬ sd + p + bh ≤ m) {b2 : List Int} {m2 : Int}
    (hR : RunR (f (free.set k (z - p)) (pl ++ [(k : Int)]) (sd + p) ⟨b, m, bu - (n + 1)⟩) bu b2 m2 n2 f2) : RunJ f p bh free pl sd bu M (k + 1) b2 m2 n2 f2 := by
  have hk := lt_of_get hz
  have hj := runJ_go h hfu
  have hn := h.2.1
  rw [show bu - (n + 1) = bu - n - 1 by omega] at hR
  obtain ⟨h0, hR⟩ := hR
  cases hs : f (free.set k (z - p)) (pl ++ [(k : Int)]) (sd + p) ⟨b, m, bu - n - 1⟩ with
  | some t =>
    rw [hs] at hR
    obtain ⟨e1, e2⟩ := hR
    refine ⟨hk, h0, .inl ⟨e2, ?_⟩⟩
    rw [← hj, ← e1]
    exact (mostLoop_some (s := ⟨b, m, bu - n⟩) hz h1 h2 (by show bu - n ≠ 0; omega) hs).symm
  | none =>
    rw [hs] at hR
    refine ⟨hk, h0, .inr ⟨hR, ?_⟩⟩
    rw [← hj]
    exact mostLoop_none (s := ⟨b, m, bu - n⟩) hz h1 h2 (by show bu - n ≠ 0; omega) hs
theorem runJ_end (h : RunJ f p bh free pl sd bu M free.length b m n fu) : (fu = false ∧ M = some ⟨b, m, bu - n⟩) ∨ (fu = true ∧ M = none) := by
  rcases h.2.2 with ⟨h1, h2⟩ | h
  · refine .inl ⟨h1, ?_⟩
    rw [← h2, Nat.sub_self]; rfl
  · exact .inr h
end
section
variable {gs : List Group} {free pl b : List Int} {sd bu m n n2 : Int} {fu f2 : Bool} {M : Option MSt} {S : Option MSt}
theorem runE_out (hn : 0 ≤ n ∧ n ≤ bu) (hE : (fu = false ∧ M = some ⟨b, m, bu - n⟩) ∨ (fu = true ∧ M = none)) (hS : S = afterL gs free pl sd M)
    (hd : RunE (sd + sumP (gs.drop (pl.length + 1))) m bu n fu false n2 f2) : RunR S bu b m n2 f2 := by
  subst hS
  rcases hE with ⟨h1, h2⟩ | ⟨h1, h2⟩
  · subst h2
    rcases hd with ⟨_, e1, e2, hc⟩ | ⟨hc, hq⟩
    · subst e1 e2; refine ⟨hn, ?_⟩; simp only [afterL]; rw [if_pos hc]; exact ⟨rfl, h1⟩
    · rcases hq with ⟨_, e2, e3, e4⟩ | ⟨hb, _⟩
      · subst e3
        refine ⟨hn, ?_⟩
        simp only [afterL]; rw [if_neg hc, if_pos (by rcases e4 with e4 | e4; (rw [h1] at e4; cases e4); omega)]
        exact e2
      · cases hb
  · subst h2
    rcases hd with ⟨_, e1, e2, hc⟩ | ⟨hc, hq⟩
    · subst e1 e2; exact ⟨hn, h1⟩
    · rcases hq with ⟨_, e2, e3, e4⟩ | ⟨hb, _⟩
      · subst e3; exact ⟨hn, e2⟩
      · cases hb
theorem runE_go (hE : (fu = false ∧ M = some ⟨b, m, bu - n⟩) ∨ (fu = true ∧ M = none)) (hS : S = afterL gs free pl sd M)
    (hd : RunE (sd + sumP (gs.drop (pl.length + 1))) m bu n fu true n2 f2) : f2 = false ∧ n2 = n + 1 ∧ fu = false ∧ n ≠ bu ∧ ¬ sd + sumP (gs.drop (pl.length + 1)) ≤ m ∧ S = mostS (remS gs (pl.length + 1)) free (pl ++ [-1]) sd ⟨b, m, bu - (n + 1)⟩ := by
  rcases hd with ⟨hb, _⟩ | ⟨hc, hq⟩
  · cases hb
  · rcases hq with ⟨hb, _⟩ | ⟨_, e1, e2, e3, e4⟩
    · cases hb
    · refine ⟨e1, e2, e3, e4, hc, ?_⟩
      rcases hE with ⟨h1, h2⟩ | ⟨h1, h2⟩
      · subst hS h2; simp only [afterL]; rw [if_neg hc, if_neg (by omega), show bu - n - 1 = bu - (n + 1) by omega]
      · rw [e3] at h1; cases h1
end
theorem most_len (gs : List Group) (rs : List Int) (b : Int) : (mostSeated gs rs b).1.length ≤ 12 := by
  unfold mostSeated
  split
  · next hv =>
    rw [Bool.and_eq_true] at hv
    have hg := groups_len hv.1
    split
    · cases hs : mostS (gs.map Group.persons) rs [] 0 ⟨[], -1, b⟩ with
      | some s =>
        have hp : ∀ p ∈ gs.map Group.persons, 0 ≤ p := fun p hp => by
          obtain ⟨g, h1, rfl⟩ := List.mem_map.1 hp
          obtain ⟨j, hj⟩ := List.getElem?_of_mem h1
          have := group_lim (groups_at hv.1 hj); omega
        have h := mostS_spec _ hp rs [] 0 ⟨[], -1, b⟩ s (by have := sumL_nonneg hp; show (-1 : Int) < 0 + _; omega) hs
        rcases h.2.2 with h | ⟨q, h1, h2, h3⟩
        · show s.best.length ≤ 12; rw [h.1]; simp
        · have := okPl_len _ _ _ h1
          show s.best.length ≤ 12; rw [h2]; simp at this ⊢; omega
      | none => simp
    · simp
  · simp
end Go.V
