/- Seatings: what is asked of them and what the searches' answers have. -/
import Derived.Test.YtnejigdldeipdaaD29
set_option linter.all false
namespace Go.V
open Go
def persL (gs : List Group) : List Int := gs.map Group.persons
theorem persL_get {gs : List Group} {k : Nat} {g : Group} (h : gs[k]? = some g) : (persL gs)[k]? = some g.persons := by simp [persL, h]
def areR (gs : List Group) (pl : List Int) : Bool := decide (pl.length = gs.length) && pl.all (fun n => decide (-1 ≤ n) && decide (n ≤ 9))
def seatedP (gs : List Group) (pl : List Int) : Int × Int := if okGroups gs then (if areR gs pl then (seatedOf (persL gs) pl, 0) else (0, 2)) else (0, 1)
def needP (gs : List Group) : Int × Int := if okGroups gs then (sumP gs, 0) else (0, 1)
def isSeat (gs : List Group) (rs pl : List Int) : Bool := okGroups gs && okRows rs && (leftF (persL gs) rs pl).isSome
theorem seatedOf_snoc : ∀ {ps q : List Int} {p r : Int}, ps.length = q.length → seatedOf (ps ++ [p]) (q ++ [r]) = seatedOf ps q + if 0 ≤ r then p else 0
  | [], [], p, r, _ => by simp [seatedOf]
  | [], _ :: _, _, _, h => by simp at h
  | _ :: _, [], _, _, h => by simp at h
  | x :: ps, y :: q, p, r, h => by
    have ih := seatedOf_snoc (ps := ps) (q := q) (p := p) (r := r) (by simpa using h)
    simp only [List.cons_append, seatedOf, ih]; omega
theorem seatedOf_take {gs : List Group} {pl : List Int} {k : Nat} {g : Group} {r : Int} (hl : pl.length = gs.length) (hg : gs[k]? = some g) (hr : pl[k]? = some r) :
    seatedOf ((persL gs).take (k + 1)) (pl.take (k + 1)) = seatedOf ((persL gs).take k) (pl.take k) + if 0 ≤ r then g.persons else 0 := by
  rw [take_snoc (persL_get hg), take_snoc hr, seatedOf_snoc (by simp [persL, hl])]
theorem seatedOf_bound : ∀ (ps q : List Int), (∀ p ∈ ps, 0 ≤ p ∧ p ≤ 40) → 0 ≤ seatedOf ps q ∧ seatedOf ps q ≤ 40 * ps.length
  | [], _, _ => by simp [seatedOf]
  | _ :: _, [], _ => by simp [seatedOf]; omega
  | p :: ps, r :: q, h => by
    have h1 := seatedOf_bound ps q (fun x hx => h x (by simp [hx]))
    have h2 := h p (by simp)
    simp only [seatedOf, List.length_cons]
    split <;> omega
theorem leftF_len : ∀ (ps free q : List Int), q.length ≠ ps.length → leftF ps free q = none
  | [], _, [], h => by simp at h
  | [], _, _ :: _, _ => rfl
  | _ :: _, _, [], _ => rfl
  | p :: ps, free, r :: q, h => by
    have h2 : q.length ≠ ps.length := by simpa using h
    rw [leftF]
    split
    · split
      · split
        · rfl
        · exact leftF_len ps _ q h2
      · exact leftF_len ps _ q h2
    · rfl
/-- Where a walk over places stands. -/
def LeftJ (gs : List Group) (rs pl : List Int) (k : Nat) (cur : List Int) : Prop := k ≤ pl.length ∧ leftF ((persL gs).drop k) cur (pl.drop k) = leftF (persL gs) rs pl ∧ cur.length = rs.length
section
variable {gs : List Group} {rs pl cur : List Int} {k : Nat} {g : Group} {r : Int}
theorem leftJ_cons (h : LeftJ gs rs pl k cur) (hg : gs[k]? = some g) (hr : pl[k]? = some r) : leftF (g.persons :: (persL gs).drop (k + 1)) cur (r :: pl.drop (k + 1)) = leftF (persL gs) rs pl := by
  have h1 : (persL gs).drop k = g.persons :: (persL gs).drop (k + 1) := by
    have hp := persL_get hg
    have hk := lt_of_get hp
    rw [List.drop_eq_getElem_cons hk]
    rw [List.getElem?_eq_getElem hk] at hp
    rw [Option.some.inj hp]
  have h2 : pl.drop k = r :: pl.drop (k + 1) := by
    have hk := lt_of_get hr
    rw [List.drop_eq_getElem_cons hk]
    rw [List.getElem?_eq_getElem hk] at hr
    rw [Option.some.inj hr]
  rw [← h1, ← h2]; exact h.2.1
theorem leftJ_out (h : LeftJ gs rs pl k cur) (hg : gs[k]? = some g) (hr : pl[k]? = some r) (hc : ¬ (-1 ≤ r ∧ r ≤ (rs.length : Int) - 1)) : leftF (persL gs) rs pl = none := by
  rw [← leftJ_cons h hg hr, leftF, if_neg (by rw [h.2.2]; exact hc)]
theorem leftJ_skip (h : LeftJ gs rs pl k cur) (hg : gs[k]? = some g) (hr : pl[k]? = some r) (hc : -1 ≤ r ∧ r ≤ (rs.length : Int) - 1) (h0 : ¬ 0 ≤ r) : LeftJ gs rs pl (k + 1) cur := by
  refine ⟨lt_of_get hr, ?_, h.2.2⟩
  have := leftJ_cons h hg hr
  rw [leftF, if_pos (by rw [h.2.2]; exact hc), if_neg h0] at this
  exact this
theorem leftJ_full (h : LeftJ gs rs pl k cur) (hg : gs[k]? = some g) {n : Nat} {z : Int} (hr : pl[k]? = some (n : Int)) (hc : -1 ≤ (n : Int) ∧ (n : Int) ≤ (rs.length : Int) - 1) (hz : cur[n]? = some z) (hl : z - g.persons < 0) : leftF (persL gs) rs pl = none := by
  rw [← leftJ_cons h hg hr, leftF, if_pos (by rw [h.2.2]; exact hc), if_pos (by omega), Int.toNat_natCast, rowAt_get hz, if_pos hl]
theorem leftJ_sit (h : LeftJ gs rs pl k cur) (hg : gs[k]? = some g) {n : Nat} {z : Int} (hr : pl[k]? = some (n : Int)) (hc : -1 ≤ (n : Int) ∧ (n : Int) ≤ (rs.length : Int) - 1) (hz : cur[n]? = some z) (hl : ¬ z - g.persons < 0) : LeftJ gs rs pl (k + 1) (cur.set n (z - g.persons)) := by
  refine ⟨lt_of_get hr, ?_, by rw [List.length_set]; exact h.2.2⟩
  have := leftJ_cons h hg hr
  rw [leftF, if_pos (by rw [h.2.2]; exact hc), if_pos (by omega), Int.toNat_natCast, rowAt_get hz, if_neg hl] at this
  exact this
theorem leftJ_end (h : LeftJ gs rs pl pl.length cur) (hl : pl.length = gs.length) : leftF (persL gs) rs pl = some cur := by
  rw [← h.2.1, List.drop_length, hl, show gs.length = (persL gs).length by simp [persL], List.drop_length]; rfl
end
theorem areR_of {gs : List Group} {rs pl : List Int} (hr : rs.length ≤ 10) (h : okPl (persL gs) rs pl) : areR gs pl = true := by
  unfold areR
  rw [Bool.and_eq_true]
  refine ⟨by have := okPl_len _ _ _ h; simpa [persL] using this, ?_⟩
  rw [List.all_eq_true]
  intro r hr2
  have := okPl_range _ _ _ h r hr2
  simp only [Bool.and_eq_true, decide_eq_true_eq]; omega
theorem pers_lim {gs : List Group} (h : okGroups gs = true) : ∀ p ∈ persL gs, 1 ≤ p ∧ p ≤ 40 := fun p hp => by
  obtain ⟨g, h1, rfl⟩ := List.mem_map.1 hp
  obtain ⟨j, hj⟩ := List.getElem?_of_mem h1
  have := group_lim (groups_at h hj); omega
/-- All that the law asks. -/
structure SeatFacts (gs : List Group) (rs : List Int) (b : Int) : Prop where
  g1 : seatedP gs (greedyS gs rs).1 = (seatedOf (persL gs) (greedyS gs rs).1, 0)
  g2 : needP gs = (sumP gs, 0)
  g3 : isSeat gs rs (greedyS gs rs).1 = true
  f1 : (firstSeating gs rs b).2 = 0 → isSeat gs rs (firstSeating gs rs b).1 = true
  f2 : (firstSeating gs rs b).2 = 0 → seatedP gs (firstSeating gs rs b).1 = (sumP gs, 0)
  m0 : (mostSeated gs rs b).2.2 ≠ 0 → (mostSeated gs rs b).1 = [] ∧ (mostSeated gs rs b).2.1 = 0
  m1 : (mostSeated gs rs b).2.2 = 0 → seatedP gs (mostSeated gs rs b).1 = ((mostSeated gs rs b).2.1, 0)
  m2 : (mostSeated gs rs b).2.2 = 0 → isSeat gs rs (mostSeated gs rs b).1 = true
  m3 : (mostSeated gs rs b).2.2 = 0 → seatedOf (persL gs) (greedyS gs rs).1 ≤ (mostSeated gs rs b).2.1
  m4 : (mostSeated gs rs b).2.2 = 0 → (firstSeating gs rs b).2 = 0 → (mostSeated gs rs b).2.1 = sumP gs
  m5 : (mostSeated gs rs b).2.2 = 0 → (firstSeating gs rs b).2 = 3 → (mostSeated gs rs b).2.1 < sumP gs
theorem seat_facts {gs : List Group} {rs : List Int} (hv : okGroups gs = true ∧ okRows rs = true) (b : Int) : SeatFacts gs rs b := by
  have hr := rows_all hv.2
  have hl := rows_len hv.2
  have hP := pers_lim hv.1
  have hP0 : ∀ p ∈ persL gs, 0 ≤ p := fun p hp => by have := hP p hp; omega
  have hP1 : ∀ p ∈ persL gs, 1 ≤ p := fun p hp => (hP p hp).1
  have good : ∀ pl, okPl (persL gs) rs pl → isSeat gs rs pl = true ∧ seatedP gs pl = (seatedOf (persL gs) pl, 0) := fun pl h => by
    refine ⟨?_, ?_⟩
    · unfold isSeat; rw [hv.1, hv.2, okPl_left _ _ _ h]; rfl
    · unfold seatedP; rw [if_pos hv.1, if_pos (areR_of hl h)]
  have hG : okPl (persL gs) rs (greedyS gs rs).1 := by rw [greedy_run hv]; exact greedy_okPl hv.1 hr
  have hF : (firstSeating gs rs b).2 = 0 → okPl (persL gs) rs (firstSeating gs rs b).1 ∧ seatedOf (persL gs) (firstSeating gs rs b).1 = sumP gs := fun h => by
    by_cases hb : 1 ≤ b ∧ b ≤ 20000
    · rw [first_run hv hb, remS_zero] at h ⊢
      cases hs : seat (gs.map Group.persons) rs [] b with
      | found q =>
        obtain ⟨q', h1, h2, h3⟩ := seat_found _ _ _ _ _ hs
        rw [List.nil_append] at h1
        subst h1
        exact ⟨h2, seatedOf_all _ _ _ h2 h3⟩
      | none l => rw [hs] at h; simp at h
      | full => rw [hs] at h; simp at h
    · rw [first_range hv hb] at h; simp at h
  have hM : (mostSeated gs rs b).2.2 = 0 → (1 ≤ b ∧ b ≤ 20000) ∧ okPl (persL gs) rs (mostSeated gs rs b).1 ∧ (mostSeated gs rs b).2.1 = seatedOf (persL gs) (mostSeated gs rs b).1 ∧ ∀ q, okPl (persL gs) rs q → seatedOf (persL gs) q ≤ (mostSeated gs rs b).2.1 := fun h => by
    by_cases hb : 1 ≤ b ∧ b ≤ 20000
    · refine ⟨hb, ?_⟩
      rw [most_run hv hb, remS_zero] at h ⊢
      cases hs : mostS (gs.map Group.persons) rs [] 0 ⟨[], -1, b⟩ with
      | some s =>
        have h9 := mostS_spec _ hP0 rs [] 0 ⟨[], -1, b⟩ s (by have := sumL_nonneg hP0; show (-1 : Int) < 0 + (persL gs).sum; omega) hs
        rcases h9.2.2 with ⟨h1, h2⟩ | ⟨q, h1, h2, h3⟩
        · exfalso
          have h10 := h9.2.1 _ hG
          have h11 := seatedOf_bound (persL gs) (greedyS gs rs).1 (fun p hp => by have := hP p hp; omega)
          have h12 : s.most = -1 := h2
          have h13 : 0 + seatedOf (persL gs) (greedyS gs rs).1 ≤ s.most := h10
          omega
        · rw [List.nil_append] at h2
          refine ⟨by show okPl (persL gs) rs s.best; rw [h2]; exact h1, by show s.most = seatedOf (persL gs) s.best; rw [h3, h2]; show 0 + seatedOf (persL gs) q = seatedOf (persL gs) q; omega, fun q2 hq2 => ?_⟩
          have := h9.2.1 q2 hq2
          show seatedOf (persL gs) q2 ≤ s.most
          have h13 : 0 + seatedOf (persL gs) q2 ≤ s.most := this
          omega
      | none => rw [hs] at h; simp at h
    · rw [most_range hv hb] at h; simp at h
  refine ⟨(good _ hG).2, by unfold needP; rw [if_pos hv.1], (good _ hG).1, fun h => (good _ (hF h).1).1, fun h => by rw [(good _ (hF h).1).2, (hF h).2], fun h => ?_, fun h => by rw [(good _ (hM h).2.1).2, (hM h).2.2.1], fun h => (good _ (hM h).2.1).1, fun h => (hM h).2.2.2 _ hG, fun h h2 => ?_, fun h h2 => ?_⟩
  · by_cases hb : 1 ≤ b ∧ b ≤ 20000
    · rw [most_run hv hb] at h ⊢
      cases hs : mostS (remS gs ([] : List Int).length) rs [] 0 ⟨[], -1, b⟩ with
      | some s => rw [hs] at h; simp at h
      | none => exact ⟨rfl, rfl⟩
    · rw [most_range hv hb]; exact ⟨rfl, rfl⟩
  · have h3 := (hM h).2.2.2 _ (hF h2).1
    rw [(hF h2).2] at h3
    have h4 := (hM h).2.2.1
    have h5 := seatedOf_le (persL gs) (mostSeated gs rs b).1 hP0
    have h6 : (persL gs).sum = sumP gs := rfl
    omega
  · obtain ⟨hb, h3, h4, _⟩ := hM h
    have hn : ∃ l, seat (gs.map Group.persons) rs [] b = .none l := by
      rw [first_run hv hb, remS_zero] at h2
      cases hs : seat (gs.map Group.persons) rs [] b with
      | found q => rw [hs] at h2; simp at h2
      | none l => exact ⟨l, rfl⟩
      | full => rw [hs] at h2; simp at h2
    obtain ⟨l, hn⟩ := hn
    have h5 := seatedOf_lt (persL gs) rs _ hP1 h3 (fun ha => seat_none _ _ _ _ _ hn _ h3 ha)
    have h6 : (persL gs).sum = sumP gs := rfl
    omega
end Go.V
