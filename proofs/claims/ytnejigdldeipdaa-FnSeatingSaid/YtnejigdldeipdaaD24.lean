/- What the searches for seats find is possible, and the best. -/
import Derived.Test.YtnejigdldeipdaaD22
set_option linter.all false
namespace Go.V
open Go
def okPl : List Int → List Int → List Int → Prop
  | [], _, [] => True
  | p :: ps, free, r :: q => (r = -1 ∧ okPl ps free q) ∨ (0 ≤ r ∧ r < free.length ∧ p ≤ rowAt free r.toNat ∧ okPl ps (free.set r.toNat (rowAt free r.toNat - p)) q)
  | _, _, _ => False
def seatedOf : List Int → List Int → Int
  | p :: ps, r :: q => (if 0 ≤ r then p else 0) + seatedOf ps q
  | _, _ => 0
def sumAt : List Int → List Int → Int → Int
  | p :: ps, r :: q, k => (if r = k then p else 0) + sumAt ps q k
  | _, _, _ => 0
def allIn (q : List Int) : Prop := ∀ r ∈ q, 0 ≤ r
theorem seatLoop_found_inv {f : List Int → List Int → Int → Seat} {p : Int} {free pl q : List Int} : ∀ (k : Nat) (left : Int), k ≤ free.length → seatLoop f p free pl k left = .found q →
    ∃ (r : Nat) (l2 : Int), r < free.length ∧ p ≤ rowAt free r ∧ f (free.set r (rowAt free r - p)) (pl ++ [(r : Int)]) l2 = .found q := by
  intro k
  induction k with
  | zero => intro left _ h; simp [seatLoop] at h
  | succ k ih =>
    intro left hk h
    rw [seatLoop] at h
    split at h
    · exact ih left (by omega) h
    · next hp =>
      split at h
      · cases h
      · split at h
        · next l he => exact ih l (by omega) h
        · next hx => exact ⟨free.length - (k + 1), left - 1, by omega, by omega, h⟩
theorem seat_found : ∀ (ps free pl : List Int) (left : Int) (q : List Int), seat ps free pl left = .found q → ∃ q', q = pl ++ q' ∧ okPl ps free q' ∧ allIn q'
  | [], free, pl, left, q, h => by
    simp only [seat, Seat.found.injEq] at h
    exact ⟨[], by simp [h], trivial, fun _ h => by cases h⟩
  | p :: ps, free, pl, left, q, h => by
    obtain ⟨r, l2, h1, h2, h3⟩ := seatLoop_found_inv free.length left (Nat.le_refl _) h
    obtain ⟨q', h4, h5, h6⟩ := seat_found ps _ _ _ _ h3
    refine ⟨(r : Int) :: q', by rw [h4]; simp, .inr ⟨by omega, by omega, by simpa using h2, by simpa using h5⟩, fun x hx => ?_⟩
    rcases List.mem_cons.1 hx with e | e
    · omega
    · exact h6 x e
theorem seatLoop_none_inv {f : List Int → List Int → Int → Seat} {p : Int} {free pl : List Int} {l : Int} : ∀ (k : Nat) (left : Int), k ≤ free.length → seatLoop f p free pl k left = .none l →
    ∀ r : Nat, free.length - k ≤ r → r < free.length → p ≤ rowAt free r → ∃ l1 l2, f (free.set r (rowAt free r - p)) (pl ++ [(r : Int)]) l1 = .none l2 := by
  intro k
  induction k with
  | zero => intro left _ h r h1 h2; omega
  | succ k ih =>
    intro left hk h r h1 h2 h3
    rw [seatLoop] at h
    split at h
    · next hlt =>
      by_cases he : r = free.length - (k + 1)
      · subst he; omega
      · exact ih left (by omega) h r (by omega) h2 h3
    · next hp =>
      split at h
      · cases h
      · split at h
        · next l' he =>
          by_cases hr : r = free.length - (k + 1)
          · subst hr; exact ⟨_, _, he⟩
          · exact ih l' (by omega) h r (by omega) h2 h3
        · next hx => exact absurd h (hx l)
theorem seat_none : ∀ (ps free pl : List Int) (left l : Int), seat ps free pl left = .none l → ∀ q, okPl ps free q → allIn q → False
  | [], free, pl, left, l, h, q, _, _ => by simp [seat] at h
  | p :: ps, free, pl, left, l, h, [], h2, _ => h2
  | p :: ps, free, pl, left, l, h, r :: q, h2, h3 => by
    have hr := h3 r (by simp)
    rcases h2 with h2 | ⟨h4, h5, h6, h7⟩
    · omega
    · obtain ⟨l1, l2, h8⟩ := seatLoop_none_inv free.length left (Nat.le_refl _) h r.toNat (by omega) (by omega) h6
      exact seat_none ps _ _ _ _ h8 q h7 (fun x hx => h3 x (by simp [hx]))
theorem sumL_nonneg : ∀ {l : List Int}, (∀ p ∈ l, 0 ≤ p) → 0 ≤ l.sum
  | [], _ => by simp
  | x :: l, h => by
    have h1 := h x (by simp)
    have h2 := sumL_nonneg (l := l) (fun y hy => h y (by simp [hy]))
    simp only [List.sum_cons]; omega
theorem seatedOf_le : ∀ (ps q : List Int), (∀ p ∈ ps, 0 ≤ p) → seatedOf ps q ≤ ps.sum
  | [], q, _ => by simp [seatedOf]
  | p :: ps, [], h => by
    have : 0 ≤ (p :: ps).sum := sumL_nonneg h
    simpa [seatedOf] using this
  | p :: ps, r :: q, h => by
    have h1 := seatedOf_le ps q (fun x hx => h x (by simp [hx]))
    have h2 := h p (by simp)
    simp only [seatedOf, List.sum_cons]
    split <;> omega
theorem seatedOf_all : ∀ (ps free q : List Int), okPl ps free q → allIn q → seatedOf ps q = ps.sum
  | [], _, [], _, _ => rfl
  | [], _, _ :: _, h, _ => h.elim
  | _ :: _, _, [], h, _ => h.elim
  | p :: ps, free, r :: q, h, h2 => by
    have hr := h2 r (by simp)
    have h3 : ∃ f, okPl ps f q := by rcases h with h | ⟨_, _, _, h⟩; exact ⟨_, h.2⟩; exact ⟨_, h⟩
    obtain ⟨f, h3⟩ := h3
    have := seatedOf_all ps f q h3 (fun x hx => h2 x (by simp [hx]))
    simp only [seatedOf, List.sum_cons, this]
    rw [if_pos hr]
theorem seatedOf_lt : ∀ (ps free q : List Int), (∀ p ∈ ps, 1 ≤ p) → okPl ps free q → ¬ allIn q → seatedOf ps q < ps.sum
  | [], _, [], _, _, h => (h (fun _ h => by cases h)).elim
  | [], _, _ :: _, _, h, _ => h.elim
  | _ :: _, _, [], _, h, _ => h.elim
  | p :: ps, free, r :: q, hp, h, h2 => by
    have h3 : ∃ f, okPl ps f q := by rcases h with h | ⟨_, _, _, h⟩; exact ⟨_, h.2⟩; exact ⟨_, h⟩
    obtain ⟨f, h3⟩ := h3
    have hp1 := hp p (by simp)
    have hps : ∀ x ∈ ps, 1 ≤ x := fun x hx => hp x (by simp [hx])
    have hle := seatedOf_le ps q (fun x hx => by have := hps x hx; omega)
    simp only [seatedOf, List.sum_cons]
    by_cases hr : 0 ≤ r
    · rw [if_pos hr]
      have := seatedOf_lt ps f q hps h3 (fun ha => h2 (fun x hx => by rcases List.mem_cons.1 hx with e | e; (subst e; exact hr); exact ha x e))
      omega
    · rw [if_neg hr]; omega
/-- What a search from here finds. -/
def MG (ps free pl : List Int) (sd : Int) (s t : MSt) : Prop :=
  s.most ≤ t.most ∧ (∀ q, okPl ps free q → sd + seatedOf ps q ≤ t.most) ∧ ((t.best = s.best ∧ t.most = s.most) ∨ ∃ q, okPl ps free q ∧ t.best = pl ++ q ∧ t.most = sd + seatedOf ps q)
def ML (ps free pl : List Int) (p sd : Int) (k : Nat) (s t : MSt) : Prop :=
  s.most ≤ t.most ∧ (∀ r : Nat, free.length - k ≤ r → r < free.length → p ≤ rowAt free r → ∀ q, okPl ps (free.set r (rowAt free r - p)) q → sd + p + seatedOf ps q ≤ t.most) ∧
    ((t.best = s.best ∧ t.most = s.most) ∨ ∃ (r : Nat) (q : List Int), r < free.length ∧ p ≤ rowAt free r ∧ okPl ps (free.set r (rowAt free r - p)) q ∧ t.best = pl ++ (r : Int) :: q ∧ t.most = sd + p + seatedOf ps q)
theorem mostLoop_spec {ps : List Int} (hps : ∀ p ∈ ps, 0 ≤ p) {p sd : Int} {free pl : List Int} (hf : ∀ free pl sd s t, s.most < sd + ps.sum → mostS ps free pl sd s = some t → MG ps free pl sd s t) :
    ∀ (k : Nat) (s t : MSt), k ≤ free.length → mostLoop (mostS ps) p ps.sum free pl sd k s = some t → ML ps free pl p sd k s t := by
  intro k
  induction k with
  | zero => intro s t _ h; simp only [mostLoop, Option.some.injEq] at h; subst h; exact ⟨Int.le_refl _, fun r h1 h2 => by omega, .inl ⟨rfl, rfl⟩⟩
  | succ k ih =>
    intro s t hk h
    rw [mostLoop] at h
    split at h
    · next hc =>
      obtain ⟨h1, h2, h3⟩ := ih s t (by omega) h
      refine ⟨h1, fun r hr1 hr2 hp q hq => ?_, h3⟩
      by_cases he : r = free.length - (k + 1)
      · subst he
        have := seatedOf_le ps q hps
        omega
      · exact h2 r (by omega) hr2 hp q hq
    · next hc =>
      split at h
      · cases h
      · split at h
        · cases h
        · next s' he =>
          obtain ⟨a1, a2, a3⟩ := hf _ _ _ _ _ (by show s.most < _; omega) he
          obtain ⟨h1, h2, h3⟩ := ih s' t (by omega) h
          have a1' : s.most ≤ s'.most := a1
          refine ⟨by omega, fun r hr1 hr2 hp q hq => ?_, ?_⟩
          · by_cases her : r = free.length - (k + 1)
            · subst her
              have := a2 q hq
              omega
            · exact h2 r (by omega) hr2 hp q hq
          · rcases h3 with h3 | h3
            · rcases a3 with a3 | ⟨q, b1, b2, b3⟩
              · exact .inl ⟨h3.1.trans a3.1, h3.2.trans a3.2⟩
              · exact .inr ⟨free.length - (k + 1), q, by omega, by omega, b1, by rw [h3.1, b2]; simp, by rw [h3.2, b3]⟩
            · exact .inr h3
theorem mostS_spec : ∀ (ps : List Int) (_ : ∀ p ∈ ps, 0 ≤ p) (free pl : List Int) (sd : Int) (s t : MSt), s.most < sd + ps.sum → mostS ps free pl sd s = some t → MG ps free pl sd s t
  | [], _, free, pl, sd, s, t, h0, h => by
    simp only [mostS, Option.some.injEq] at h
    subst h
    simp only [List.sum_nil] at h0
    refine ⟨by show s.most ≤ sd; omega, fun q hq => ?_, .inr ⟨[], trivial, by simp, by simp [seatedOf]⟩⟩
    show sd + seatedOf [] q ≤ sd
    simp [seatedOf]
  | p :: ps, hp, free, pl, sd, s, t, h0, h => by
    have hps : ∀ x ∈ ps, 0 ≤ x := fun x hx => hp x (by simp [hx])
    rw [mostS] at h
    split at h
    · cases h
    · next s' he =>
      obtain ⟨a1, a2, a3⟩ := mostLoop_spec hps (fun free pl sd s t h1 h2 => mostS_spec ps hps free pl sd s t h1 h2) free.length s s' (Nat.le_refl _) he
      split at h
      · next hc =>
        simp only [Option.some.injEq] at h
        subst h
        refine ⟨a1, fun q hq => ?_, ?_⟩
        · match q, hq with
          | [], hq => exact hq.elim
          | r :: q, hq =>
            rcases hq with ⟨h1, h2⟩ | ⟨h1, h2, h3, h4⟩
            · have := seatedOf_le ps q hps
              simp only [seatedOf]; rw [if_neg (by omega)]; omega
            · have := a2 r.toNat (by omega) (by omega) h3 q h4
              simp only [seatedOf]; rw [if_pos h1]; omega
        · rcases a3 with a3 | ⟨r, q, b1, b2, b3, b4, b5⟩
          · exact .inl a3
          · exact .inr ⟨(r : Int) :: q, .inr ⟨by omega, by omega, by simpa using b2, by simpa using b3⟩, b4, by simp only [seatedOf]; rw [if_pos (by omega), b5]; omega⟩
      · next hc =>
        split at h
        · cases h
        · obtain ⟨c1, c2, c3⟩ := mostS_spec ps hps free (pl ++ [-1]) sd _ t (by show s'.most < _; omega) h
          have c1' : s'.most ≤ t.most := c1
          refine ⟨by omega, fun q hq => ?_, ?_⟩
          · match q, hq with
            | [], hq => exact hq.elim
            | r :: q, hq =>
              rcases hq with ⟨h1, h2⟩ | ⟨h1, h2, h3, h4⟩
              · have := c2 q h2
                simp only [seatedOf]; rw [if_neg (by omega)]; omega
              · have := a2 r.toNat (by omega) (by omega) h3 q h4
                simp only [seatedOf]; rw [if_pos h1]; omega
          · rcases c3 with c3 | ⟨q, b1, b2, b3⟩
            · have c31 : t.best = s'.best := c3.1
              have c32 : t.most = s'.most := c3.2
              rcases a3 with a3 | ⟨r, q, b1, b2, b3, b4, b5⟩
              · exact .inl ⟨c31.trans a3.1, c32.trans a3.2⟩
              · exact .inr ⟨(r : Int) :: q, .inr ⟨by omega, by omega, by simpa using b2, by simpa using b3⟩, c31.trans b4, by simp only [seatedOf]; rw [if_pos (by omega), c32, b5]; omega⟩
            · exact .inr ⟨-1 :: q, .inl ⟨rfl, b1⟩, by rw [b2]; simp, by simp only [seatedOf]; rw [if_neg (by omega), b3]; omega⟩
theorem sumAt_nonneg : ∀ (ps q : List Int) (k : Int), (∀ p ∈ ps, 0 ≤ p) → 0 ≤ sumAt ps q k
  | [], _, _, _ => by simp [sumAt]
  | _ :: _, [], _, _ => by simp [sumAt]
  | p :: ps, r :: q, k, h => by
    have h1 := sumAt_nonneg ps q k (fun x hx => h x (by simp [hx]))
    have h2 := h p (by simp)
    simp only [sumAt]
    split <;> omega
theorem rowAt_set {free : List Int} {r k : Nat} {y : Int} (h : r < free.length) : rowAt (free.set r y) k = if k = r then y else rowAt free k := by
  unfold rowAt
  rw [List.getElem?_set]
  by_cases e : r = k
  · subst e; simp [h]
  · rw [if_neg e, if_neg (fun x => e x.symm)]
theorem okPl_of_sum : ∀ (ps free q : List Int), (∀ p ∈ ps, 0 ≤ p) → q.length = ps.length → (∀ r ∈ q, -1 ≤ r ∧ r < free.length) → (∀ k : Nat, k < free.length → sumAt ps q (k : Int) ≤ rowAt free k) → okPl ps free q
  | [], _, [], _, _, _, _ => trivial
  | [], _, _ :: _, _, h, _, _ => by simp at h
  | _ :: _, _, [], _, h, _, _ => by simp at h
  | p :: ps, free, r :: q, hp, hl, hr, hs => by
    have hps : ∀ x ∈ ps, 0 ≤ x := fun x hx => hp x (by simp [hx])
    have hr0 := hr r (by simp)
    by_cases h1 : r = -1
    · refine .inl ⟨h1, okPl_of_sum ps free q hps (by simpa using hl) (fun x hx => hr x (by simp [hx])) (fun k hk => ?_)⟩
      have := hs k hk
      simp only [sumAt] at this
      rw [if_neg (by omega)] at this
      omega
    · have hsr := hs r.toNat (by omega)
      have hnn := sumAt_nonneg ps q (r.toNat : Int) hps
      simp only [sumAt] at hsr
      rw [if_pos (by omega)] at hsr
      refine .inr ⟨by omega, hr0.2, by omega, okPl_of_sum ps _ q hps (by simpa using hl) (fun x hx => by rw [List.length_set]; exact hr x (by simp [hx])) (fun k hk => ?_)⟩
      rw [List.length_set] at hk
      rw [rowAt_set (by omega)]
      have := hs k hk
      simp only [sumAt] at this
      by_cases e : k = r.toNat
      · rw [if_pos e]; subst e; rw [if_pos (by omega)] at this; omega
      · rw [if_neg e]; rw [if_neg (by omega)] at this; omega
theorem perm_sum {a b : List Int} (h : a.Perm b) : a.sum = b.sum := by
  induction h with
  | nil => rfl
  | cons x _ ih => simp [ih]
  | swap x y l => simp only [List.sum_cons]; omega
  | trans _ _ h1 h2 => exact h1.trans h2
def setSum (gs : List Group) (out L : List Int) (k : Int) : Int := (L.map fun i => if rowAt out i.toNat = k then pAt gs i else 0).sum
theorem setSum_range : ∀ (gs : List Group) (out : List Int) (k : Int), out.length = gs.length → setSum gs out ((List.range gs.length).map (fun k : Nat => (k : Int))) k = sumAt (gs.map Group.persons) out k
  | [], out, k, h => by simp [setSum, sumAt]
  | g :: gs, [], k, h => by simp at h
  | g :: gs, r :: q, k, h => by
    have ih := setSum_range gs q k (by simpa using h)
    simp only [setSum, List.map_map] at ih
    simp only [setSum, List.length_cons, List.range_succ_eq_map, List.map_cons, List.sum_cons, List.map_map, sumAt]
    rw [← ih]
    congr 1
theorem greedy_inv {gs : List Group} (hg : okGroups gs = true) {rs : List Int} (hr : rs.all okRow = true) : ∀ k, k ≤ gs.length →
    (∀ i ∈ (ordTo gs gs.length).take k, -1 ≤ rowAt (greedyTo gs rs k).2 i.toNat ∧ rowAt (greedyTo gs rs k).2 i.toNat < rs.length) ∧
    (∀ j : Nat, j < rs.length → rowAt (greedyTo gs rs k).1 j + setSum gs (greedyTo gs rs k).2 ((ordTo gs gs.length).take k) (j : Int) = rowAt rs j) := by
  intro k
  induction k with
  | zero => intro _; exact ⟨fun i hi => by simp at hi, fun j _ => by simp [greedyTo_zero, setSum]⟩
  | succ k ih =>
    intro hk
    obtain ⟨h1, h2⟩ := ih (by omega)
    obtain ⟨x, hx⟩ := get_some (xs := ordTo gs gs.length) (k := k) (by rw [ordTo_length]; omega)
    have hlen := greedyTo_len gs rs k
    have hxr := ordTo_mem gs gs.length (List.mem_of_getElem? hx)
    have hnd : x ∉ (ordTo gs gs.length).take k := by
      have hn : (ordTo gs gs.length).Nodup := (ordTo_perm gs gs.length).nodup_iff.2 (List.Pairwise.map _ (fun a b h e => h (by omega)) List.nodup_range)
      intro hm
      obtain ⟨j, hj, he⟩ := List.mem_iff_getElem.1 hm
      have hj2 : j < k := by simp at hj; omega
      have := List.getElem?_eq_some_iff.1 hx
      obtain ⟨hk2, he2⟩ := this
      have h9 := (List.pairwise_iff_getElem.1 hn) j k (by omega) hk2 hj2
      rw [List.getElem_take] at he
      exact h9 (he.trans he2.symm)
    rw [greedyTo_succ hx, take_snoc hx]
    generalize hS : greedyTo gs rs k = S at h1 h2 hlen ⊢
    have hb := seatTo_range S.1 (pAt gs x) S.1.length
    generalize hB : seatTo S.1 (pAt gs x) S.1.length = B at hb
    have e2 : (gStep gs S x).2 = S.2.set x.toNat B := by simp only [gStep, hB]
    have e1 : (gStep gs S x).1 = if 0 ≤ B then S.1.set B.toNat (rowAt S.1 B.toNat - pAt gs x) else S.1 := by simp only [gStep, hB]
    rw [e2, e1]
    have hset : ∀ i : Int, 0 ≤ i → rowAt (S.2.set x.toNat B) i.toNat = if i = x then B else rowAt S.2 i.toNat := fun i hi => by
      rw [rowAt_set (by omega)]
      by_cases e : i = x
      · rw [if_pos e, if_pos (by omega)]
      · rw [if_neg e, if_neg (by omega)]
    have hpos : ∀ i ∈ (ordTo gs gs.length).take k, 0 ≤ i := fun i hi => (ordTo_mem gs gs.length (List.mem_of_mem_take hi)).1
    constructor
    · intro i hi
      rw [List.mem_append, List.mem_singleton] at hi
      rcases hi with hi | hi
      · rw [hset i (hpos i hi), if_neg (fun e : i = x => hnd (e ▸ hi))]; exact h1 i hi
      · subst hi; rw [hset i hxr.1, if_pos rfl]; omega
    · intro j hj
      have e3 : setSum gs (S.2.set x.toNat B) ((ordTo gs gs.length).take k ++ [x]) (j : Int) = setSum gs S.2 ((ordTo gs gs.length).take k) (j : Int) + if B = (j : Int) then pAt gs x else 0 := by
        simp only [setSum, List.map_append, List.sum_append, List.map_cons, List.map_nil, List.sum_cons, List.sum_nil]
        rw [hset x hxr.1, if_pos rfl]
        congr 1
        · congr 1
          apply List.map_congr_left
          intro i hi
          rw [hset i (hpos i hi), if_neg (fun e : i = x => hnd (e ▸ hi))]
        · omega
      rw [e3]
      have h3 := h2 j hj
      by_cases hB0 : 0 ≤ B
      · rw [if_pos hB0, rowAt_set (by omega)]
        by_cases e : j = B.toNat
        · rw [if_pos e, if_pos (by omega)]; subst e; omega
        · rw [if_neg e, if_neg (by omega)]; omega
      · rw [if_neg hB0, if_neg (by omega)]; omega
theorem greedy_okPl {gs : List Group} (hg : okGroups gs = true) {rs : List Int} (hr : rs.all okRow = true) : okPl (gs.map Group.persons) rs (greedyTo gs rs gs.length).2 := by
  obtain ⟨h1, h2⟩ := greedy_inv hg hr gs.length (Nat.le_refl _)
  have hlen := greedyTo_len gs rs gs.length
  rw [List.take_of_length_le (by rw [ordTo_length]; exact Nat.le_refl _)] at h1 h2
  refine okPl_of_sum _ _ _ (fun p hp => ?_) (by rw [hlen.2]; simp) (fun r hr2 => ?_) (fun k hk => ?_)
  · obtain ⟨g, h3, rfl⟩ := List.mem_map.1 hp
    obtain ⟨j, hj⟩ := List.getElem?_of_mem h3
    have := group_lim (groups_at hg hj); omega
  · obtain ⟨j, hj⟩ := List.getElem?_of_mem hr2
    have hjl := lt_of_get hj
    have := h1 (j : Int) ((ordTo_perm gs gs.length).mem_iff.2 (List.mem_map.2 ⟨j, List.mem_range.2 (by omega), rfl⟩))
    rw [Int.toNat_natCast, rowAt_get hj] at this
    exact this
  · rw [← setSum_range _ _ _ hlen.2]
    have h3 := h2 k hk
    have h4 : setSum gs (greedyTo gs rs gs.length).2 (ordTo gs gs.length) (k : Int) = setSum gs (greedyTo gs rs gs.length).2 ((List.range gs.length).map (fun k : Nat => (k : Int))) (k : Int) := perm_sum ((ordTo_perm gs gs.length).map _)
    rw [h4] at h3
    have hk2 : k < (greedyTo gs rs gs.length).1.length := by omega
    obtain ⟨z, hz⟩ := get_some hk2
    have hz2 := all_at (greedyTo_ok hg hr gs.length) hz
    rw [rowAt_get hz] at h3
    simp only [okRow, Bool.and_eq_true, decide_eq_true_eq] at hz2
    omega
/-- What is left of the rows, if places are possible. -/
def leftF : List Int → List Int → List Int → Option (List Int)
  | [], free, [] => some free
  | p :: ps, free, r :: q => if -1 ≤ r ∧ r ≤ (free.length : Int) - 1 then (if 0 ≤ r then (if rowAt free r.toNat - p < 0 then none else leftF ps (free.set r.toNat (rowAt free r.toNat - p)) q) else leftF ps free q) else none
  | _, _, _ => none
theorem okPl_left : ∀ (ps free q : List Int), okPl ps free q → (leftF ps free q).isSome = true
  | [], _, [], _ => rfl
  | [], _, _ :: _, h => h.elim
  | _ :: _, _, [], h => h.elim
  | p :: ps, free, r :: q, h => by
    rcases h with ⟨h1, h2⟩ | ⟨h1, h2, h3, h4⟩
    · rw [leftF, if_pos (by omega), if_neg (by omega)]; exact okPl_left ps free q h2
    · rw [leftF, if_pos (by omega), if_pos h1, if_neg (by omega)]; exact okPl_left ps _ q h4
theorem okPl_len : ∀ (ps free q : List Int), okPl ps free q → q.length = ps.length
  | [], _, [], _ => rfl
  | [], _, _ :: _, h => h.elim
  | _ :: _, _, [], h => h.elim
  | p :: ps, free, r :: q, h => by
    rcases h with ⟨_, h2⟩ | ⟨_, _, _, h4⟩
    · simp [okPl_len ps free q h2]
    · simp [okPl_len ps _ q h4]
theorem okPl_range : ∀ (ps free q : List Int), okPl ps free q → ∀ r ∈ q, -1 ≤ r ∧ r < free.length
  | [], _, [], _ => fun _ h => by cases h
  | [], _, _ :: _, h => h.elim
  | _ :: _, _, [], h => h.elim
  | p :: ps, free, r :: q, h => fun x hx => by
    rcases h with ⟨h1, h2⟩ | ⟨h1, h2, h3, h4⟩
    · rcases List.mem_cons.1 hx with e | e
      · omega
      · exact okPl_range ps free q h2 x e
    · rcases List.mem_cons.1 hx with e | e
      · omega
      · have := okPl_range ps _ q h4 x e; rw [List.length_set] at this; exact this
end Go.V
