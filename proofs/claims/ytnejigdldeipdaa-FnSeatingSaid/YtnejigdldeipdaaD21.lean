/- The search for the most persons, as a plain function. -/
import Derived.Test.YtnejigdldeipdaaD20
set_option linter.all false
namespace Go.V
open Go
structure MSt where
  best : List Int
  most : Int
  left : Int
def mostLoop (f : List Int → List Int → Int → MSt → Option MSt) (p bh : Int) (free pl : List Int) (sd : Int) : Nat → MSt → Option MSt
  | 0, s => some s
  | k + 1, s =>
    if rowAt free (free.length - (k + 1)) < p ∨ sd + p + bh ≤ s.most then mostLoop f p bh free pl sd k s
    else if s.left = 0 then none
    else match f (free.set (free.length - (k + 1)) (rowAt free (free.length - (k + 1)) - p)) (pl ++ [((free.length - (k + 1) : Nat) : Int)]) (sd + p) ⟨s.best, s.most, s.left - 1⟩ with
      | none => none
      | some s' => mostLoop f p bh free pl sd k s'
def mostS : List Int → List Int → List Int → Int → MSt → Option MSt
  | [], _, pl, sd, s => some ⟨pl, sd, s.left⟩
  | p :: ps, free, pl, sd, s =>
    match mostLoop (mostS ps) p ps.sum free pl sd free.length s with
    | none => none
    | some s' => if sd + ps.sum ≤ s'.most then some s' else if s'.left = 0 then none else mostS ps free (pl ++ [-1]) sd ⟨s'.best, s'.most, s'.left - 1⟩
section
variable {f : List Int → List Int → Int → MSt → Option MSt} {p bh sd z : Int} {s s' : MSt} {free pl : List Int} {r : Nat}
theorem mostLoop_skip (hz : free[r]? = some z) (h : z < p ∨ sd + p + bh ≤ s.most) : mostLoop f p bh free pl sd (free.length - r) s = mostLoop f p bh free pl sd (free.length - (r + 1)) s := by
  have hr := lt_of_get hz
  rw [show free.length - r = (free.length - r - 1) + 1 by omega, mostLoop, show free.length - (free.length - r - 1 + 1) = r by omega, rowAt_get hz, if_pos h, show free.length - (r + 1) = free.length - r - 1 by omega]
theorem mostLoop_full (hz : free[r]? = some z) (h : ¬ z < p) (h2 : ¬ sd + p + bh ≤ s.most) (h0 : s.left = 0) : mostLoop f p bh free pl sd (free.length - r) s = none := by
  have hr := lt_of_get hz
  rw [show free.length - r = (free.length - r - 1) + 1 by omega, mostLoop, show free.length - (free.length - r - 1 + 1) = r by omega, rowAt_get hz, if_neg (by omega), if_pos h0]
theorem mostLoop_go (hz : free[r]? = some z) (h : ¬ z < p) (h2 : ¬ sd + p + bh ≤ s.most) (h0 : s.left ≠ 0) : mostLoop f p bh free pl sd (free.length - r) s = match f (free.set r (z - p)) (pl ++ [(r : Int)]) (sd + p) ⟨s.best, s.most, s.left - 1⟩ with
      | none => none
      | some s' => mostLoop f p bh free pl sd (free.length - (r + 1)) s' := by
  have hr := lt_of_get hz
  rw [show free.length - r = (free.length - r - 1) + 1 by omega, mostLoop, show free.length - (free.length - r - 1 + 1) = r by omega, rowAt_get hz, if_neg (by omega), if_neg h0, show free.length - (r + 1) = free.length - r - 1 by omega]
theorem mostLoop_some (hz : free[r]? = some z) (h : ¬ z < p) (h2 : ¬ sd + p + bh ≤ s.most) (h0 : s.left ≠ 0) (hf : f (free.set r (z - p)) (pl ++ [(r : Int)]) (sd + p) ⟨s.best, s.most, s.left - 1⟩ = some s') :
    mostLoop f p bh free pl sd (free.length - r) s = mostLoop f p bh free pl sd (free.length - (r + 1)) s' := by rw [mostLoop_go hz h h2 h0, hf]
theorem mostLoop_none (hz : free[r]? = some z) (h : ¬ z < p) (h2 : ¬ sd + p + bh ≤ s.most) (h0 : s.left ≠ 0) (hf : f (free.set r (z - p)) (pl ++ [(r : Int)]) (sd + p) ⟨s.best, s.most, s.left - 1⟩ = none) :
    mostLoop f p bh free pl sd (free.length - r) s = none := by rw [mostLoop_go hz h h2 h0, hf]
end
theorem mostLoop_left {f : List Int → List Int → Int → MSt → Option MSt} {p bh : Int} {free pl : List Int} {sd : Int} (hf : ∀ a b c s t, 0 ≤ s.left → f a b c s = some t → 0 ≤ t.left ∧ t.left ≤ s.left) : ∀ (k : Nat) (s t : MSt), 0 ≤ s.left → mostLoop f p bh free pl sd k s = some t → 0 ≤ t.left ∧ t.left ≤ s.left := by
  intro k
  induction k with
  | zero => intro s t h0 h; simp only [mostLoop, Option.some.injEq] at h; subst h; omega
  | succ k ih =>
    intro s t h0 h
    rw [mostLoop] at h
    split at h
    · exact ih s t h0 h
    · split at h
      · cases h
      · next hne =>
        split at h
        · cases h
        · next s' he =>
          have h1 := hf _ _ _ _ _ (by show 0 ≤ s.left - 1; omega) he
          have h2 := ih s' t h1.1 h
          have h3 : s'.left ≤ s.left - 1 := h1.2
          omega
theorem mostS_left : ∀ (ps free pl : List Int) (sd : Int) (s t : MSt), 0 ≤ s.left → mostS ps free pl sd s = some t → 0 ≤ t.left ∧ t.left ≤ s.left
  | [], _, pl, sd, s, t, h0, h => by simp only [mostS, Option.some.injEq] at h; subst h; exact ⟨h0, Int.le_refl _⟩
  | p :: ps, free, pl, sd, s, t, h0, h => by
    rw [mostS] at h
    split at h
    · cases h
    · next s' he =>
      have h1 := mostLoop_left (fun a b c s t hs he => mostS_left ps a b c s t hs he) _ _ _ h0 he
      split at h
      · simp only [Option.some.injEq] at h; subst h; exact h1
      · split at h
        · cases h
        · have h2 := mostS_left ps _ _ _ _ t (by show 0 ≤ s'.left - 1; omega) h
          have h3 : t.left ≤ s'.left - 1 := h2.2
          omega
def isS : Option MSt → Bool
  | some _ => true
  | none => false
def MostR (s : Option MSt) (free pl fr2 pl2 b2 : List Int) (m2 l2 : Int) : Prop := fr2.length = free.length ∧ match s with
  | some t => fr2 = free ∧ pl2 = pl ∧ t = ⟨b2, m2, l2⟩
  | none => True
theorem isS_some {s : Option MSt} (h : isS s = true) : ∃ t, s = some t := by
  cases s with
  | none => simp [isS] at h
  | some t => exact ⟨t, rfl⟩
theorem isS_none {s : Option MSt} (h : isS s = false) : s = none := by
  cases s with
  | none => rfl
  | some t => simp [isS] at h
theorem remS_at {gs : List Group} {m : Nat} : (remS gs m).sum = ((gs.drop m).map Group.persons).sum := by unfold remS; rw [List.map_drop]
def sumP (gs : List Group) : Int := (gs.map Group.persons).sum
theorem sumP_bound : ∀ {gs : List Group}, (∀ g ∈ gs, 1 ≤ g.persons ∧ g.persons ≤ 40) → 0 ≤ sumP gs ∧ sumP gs ≤ 40 * gs.length
  | [], _ => by simp [sumP]
  | g :: gs, h => by
    have h1 := h g (by simp)
    have h2 := sumP_bound (gs := gs) (fun x hx => h x (by simp [hx]))
    simp only [sumP, List.map_cons, List.sum_cons, List.length_cons] at h2 ⊢
    omega
theorem sumP_take_succ {gs : List Group} {k : Nat} {g : Group} (h : gs[k]? = some g) : sumP (gs.take (k + 1)) = sumP (gs.take k) + g.persons := by
  rw [take_snoc h]; simp [sumP]
def mostSeated (gs : List Group) (rs : List Int) (b : Int) : List Int × Int × Int :=
  if okGroups gs && okRows rs then (if decide (1 ≤ b) && decide (b ≤ 20000) then (match mostS (gs.map Group.persons) rs [] 0 ⟨[], -1, b⟩ with
    | some s => (s.best, s.most, 0)
    | none => ([], 0, 5)) else ([], 0, 2)) else ([], 0, 1)
theorem most_bad {gs : List Group} {rs : List Int} {b : Int} (h : ¬ (okGroups gs = true ∧ okRows rs = true)) : mostSeated gs rs b = ([], 0, 1) := by
  unfold mostSeated; rw [if_neg (by rw [Bool.and_eq_true]; exact h)]
theorem most_range {gs : List Group} {rs : List Int} {b : Int} (h : okGroups gs = true ∧ okRows rs = true) (hb : ¬ (1 ≤ b ∧ b ≤ 20000)) : mostSeated gs rs b = ([], 0, 2) := by
  unfold mostSeated; rw [if_pos (by rw [Bool.and_eq_true]; exact h), if_neg (by simp only [Bool.and_eq_true, decide_eq_true_eq]; exact hb)]
theorem most_run {gs : List Group} {rs : List Int} {b : Int} (h : okGroups gs = true ∧ okRows rs = true) (hb : 1 ≤ b ∧ b ≤ 20000) : mostSeated gs rs b = (match mostS (remS gs ([] : List Int).length) rs [] 0 ⟨[], -1, b⟩ with
    | some s => (s.best, s.most, 0)
    | none => ([], 0, 5)) := by
  unfold mostSeated; rw [if_pos (by rw [Bool.and_eq_true]; exact h), if_pos (by simp only [Bool.and_eq_true, decide_eq_true_eq]; exact hb)]; rfl
end Go.V
