/- Seats of groups: what is left, the first seats, wishes. -/
import Derived.Test.YtnejigdldeipdaaD30
set_option linter.all false
namespace Go.V
open Go
def freeF : List Int → List Int → List Int → Option (List Int)
  | [], free, [] => some free
  | p :: ps, free, r :: q => if -1 ≤ r ∧ r ≤ (free.length : Int) - 1 then (if 0 ≤ r then freeF ps (free.set r.toNat (rowAt free r.toNat - p)) q else freeF ps free q) else none
  | _, _, _ => none
def nnL (f : List Int) : Bool := f.all (fun z => decide (0 ≤ z))
def chkF (o : Option (List Int)) : Option (List Int) := match o with
  | some f => if nnL f then some f else none
  | none => none
theorem freeF_le : ∀ (ps free q f : List Int), (∀ p ∈ ps, 0 ≤ p) → freeF ps free q = some f → f.length = free.length ∧ ∀ k, rowAt f k ≤ rowAt free k
  | [], free, [], f, _, h => by simp only [freeF, Option.some.injEq] at h; subst h; exact ⟨rfl, fun _ => Int.le_refl _⟩
  | [], free, _ :: _, f, _, h => by simp [freeF] at h
  | _ :: _, free, [], f, _, h => by simp [freeF] at h
  | p :: ps, free, r :: q, f, hp, h => by
    have hps : ∀ x ∈ ps, 0 ≤ x := fun x hx => hp x (by simp [hx])
    have hp0 := hp p (by simp)
    rw [freeF] at h
    split at h
    · next hc =>
      split at h
      · have := freeF_le ps _ q f hps h
        refine ⟨by rw [this.1, List.length_set], fun k => ?_⟩
        have h2 := this.2 k
        rw [rowAt_set (by omega)] at h2
        split at h2
        · next e => subst e; omega
        · exact h2
      · exact freeF_le ps free q f hps h
    · cases h
theorem nnL_at {f : List Int} (h : nnL f = true) {k : Nat} : 0 ≤ rowAt f k := by
  unfold rowAt
  cases hk : f[k]? with
  | none => simp
  | some z => have := all_at h hk; simpa using this
theorem nnL_not {f : List Int} {k : Nat} (h : rowAt f k < 0) : nnL f = false := by
  cases hn : nnL f with
  | false => rfl
  | true => have := nnL_at hn (k := k); omega
theorem left_free : ∀ (ps free q : List Int), (∀ p ∈ ps, 0 ≤ p) → nnL free = true → leftF ps free q = chkF (freeF ps free q)
  | [], free, [], _, h => by simp [leftF, freeF, chkF, h]
  | [], free, _ :: _, _, _ => rfl
  | _ :: _, free, [], _, _ => rfl
  | p :: ps, free, r :: q, hp, hn => by
    have hps : ∀ x ∈ ps, 0 ≤ x := fun x hx => hp x (by simp [hx])
    rw [leftF, freeF]
    by_cases hc : -1 ≤ r ∧ r ≤ (free.length : Int) - 1
    · rw [if_pos hc, if_pos hc]
      by_cases h0 : 0 ≤ r
      · rw [if_pos h0, if_pos h0]
        by_cases hl : rowAt free r.toNat - p < 0
        · rw [if_pos hl]
          cases hf : freeF ps (free.set r.toNat (rowAt free r.toNat - p)) q with
          | none => rfl
          | some f =>
            have h2 := (freeF_le ps _ q f hps hf).2 r.toNat
            rw [rowAt_set (by omega), if_pos rfl] at h2
            simp only [chkF]
            rw [nnL_not (k := r.toNat) (by omega)]; rfl
        · rw [if_neg hl]
          refine left_free ps _ q hps ?_
          unfold nnL at hn ⊢
          rw [List.all_eq_true] at hn ⊢
          intro x hx
          rcases List.mem_or_eq_of_mem_set hx with e | e
          · exact hn x e
          · rw [e]; simp; omega
      · rw [if_neg h0, if_neg h0]; exact left_free ps free q hps hn
    · rw [if_neg hc, if_neg hc]; rfl
theorem rowAt_over {f : List Int} {k : Nat} (h : f.length ≤ k) : rowAt f k = 0 := by simp [rowAt, List.getElem?_eq_none h]
/-- What is left, row by row, and all in all. -/
theorem set_sum : ∀ {l : List Int} {k : Nat} {y : Int}, k < l.length → (l.set k y).sum = l.sum - rowAt l k + y
  | x :: l, 0, y, _ => by simp [rowAt]; omega
  | x :: l, k + 1, y, h => by
    have := set_sum (l := l) (k := k) (y := y) (by simpa using h)
    simp only [List.set_cons_succ, List.sum_cons, this]
    have e : rowAt (x :: l) (k + 1) = rowAt l k := by simp [rowAt]
    rw [e]; omega
theorem leftF_facts : ∀ (ps free q f : List Int), (∀ p ∈ ps, 0 ≤ p) → leftF ps free q = some f → okPl ps free q ∧ f.length = free.length ∧ f.sum + seatedOf ps q = free.sum ∧ ∀ k : Nat, rowAt f k + sumAt ps q (k : Int) = rowAt free k
  | [], free, [], f, _, h => by simp only [leftF, Option.some.injEq] at h; subst h; exact ⟨trivial, rfl, by simp [seatedOf], fun k => by simp [sumAt]⟩
  | [], free, _ :: _, f, _, h => by simp [leftF] at h
  | _ :: _, free, [], f, _, h => by simp [leftF] at h
  | p :: ps, free, r :: q, f, hp, h => by
    have hps : ∀ x ∈ ps, 0 ≤ x := fun x hx => hp x (by simp [hx])
    rw [leftF] at h
    split at h
    · next hc =>
      split at h
      · next h0 =>
        split at h
        · cases h
        · next hl =>
          obtain ⟨h1, h2, h3, h4⟩ := leftF_facts ps _ q f hps h
          rw [List.length_set] at h2
          rw [set_sum (by omega)] at h3
          refine ⟨.inr ⟨h0, by omega, by omega, h1⟩, h2, by simp only [seatedOf]; rw [if_pos h0]; omega, fun k => ?_⟩
          have h5 := h4 k
          rw [rowAt_set (by omega)] at h5
          simp only [sumAt]
          by_cases e : k = r.toNat
          · rw [if_pos e] at h5; subst e; rw [if_pos (by omega)]; omega
          · rw [if_neg e] at h5; rw [if_neg (by omega)]; omega
      · next h0 =>
        obtain ⟨h1, h2, h3, h4⟩ := leftF_facts ps free q f hps h
        refine ⟨.inl ⟨by omega, h1⟩, h2, by simp only [seatedOf]; rw [if_neg h0]; omega, fun k => ?_⟩
        have h5 := h4 k
        simp only [sumAt]
        rw [if_neg (by omega)]; omega
    · cases h
theorem leftF_nn : ∀ (ps free q f : List Int), nnL free = true → leftF ps free q = some f → nnL f = true
  | [], free, [], f, hn, h => by simp only [leftF, Option.some.injEq] at h; subst h; exact hn
  | [], free, _ :: _, f, _, h => by simp [leftF] at h
  | _ :: _, free, [], f, _, h => by simp [leftF] at h
  | p :: ps, free, r :: q, f, hn, h => by
    rw [leftF] at h
    split at h
    · split at h
      · split at h
        · cases h
        · next hl =>
          refine leftF_nn ps _ q f ?_ h
          unfold nnL at hn ⊢
          rw [List.all_eq_true] at hn ⊢
          intro x hx
          rcases List.mem_or_eq_of_mem_set hx with e | e
          · exact hn x e
          · rw [e]; simp; omega
      · exact leftF_nn ps free q f hn h
    · cases h
theorem okRow_nn {rs : List Int} (h : rs.all okRow = true) : nnL rs = true := by
  unfold nnL
  rw [List.all_eq_true] at h ⊢
  intro x hx
  have := h x hx
  simp only [okRow, Bool.and_eq_true, decide_eq_true_eq] at this
  simpa using this.1
/-- How much of a row is taken by the first k groups. -/
def usedAt (gs : List Group) (pl : List Int) (k : Nat) (r : Int) : Int := sumAt ((persL gs).take k) (pl.take k) r
theorem sumAt_snoc : ∀ {ps q : List Int} {p r k : Int}, ps.length = q.length → sumAt (ps ++ [p]) (q ++ [r]) k = sumAt ps q k + if r = k then p else 0
  | [], [], p, r, k, _ => by simp [sumAt]
  | [], _ :: _, _, _, _, h => by simp at h
  | _ :: _, [], _, _, _, h => by simp at h
  | x :: ps, y :: q, p, r, k, h => by
    have ih := sumAt_snoc (ps := ps) (q := q) (p := p) (r := r) (k := k) (by simpa using h)
    simp only [List.cons_append, sumAt, ih]; omega
section
variable {gs : List Group} {pl : List Int} {k : Nat} {g : Group} {x r : Int}
theorem usedAt_succ (hl : pl.length = gs.length) (hg : gs[k]? = some g) (hx : pl[k]? = some x) : usedAt gs pl (k + 1) r = usedAt gs pl k r + if x = r then g.persons else 0 := by
  unfold usedAt
  rw [take_snoc (persL_get hg), take_snoc hx, sumAt_snoc (by simp [persL, hl])]
theorem usedAt_zero : usedAt gs pl 0 r = 0 := by simp [usedAt, sumAt]
theorem usedAt_nonneg (h : okGroups gs = true) (k : Nat) (r : Int) : 0 ≤ usedAt gs pl k r := sumAt_nonneg _ _ _ (fun p hp => by have := pers_lim h p (List.mem_of_mem_take hp); omega)
theorem usedAt_step (h : okGroups gs = true) (hl : pl.length = gs.length) (k : Nat) (r : Int) : usedAt gs pl k r ≤ usedAt gs pl (k + 1) r := by
  by_cases hk : k < gs.length
  · obtain ⟨g, hg⟩ := get_some hk
    obtain ⟨x, hx⟩ := get_some (xs := pl) (k := k) (by omega)
    rw [usedAt_succ hl hg hx]
    have := group_lim (groups_at h hg)
    split <;> omega
  · unfold usedAt
    rw [List.take_of_length_le (by simp [persL]; omega), List.take_of_length_le (by omega), List.take_of_length_le (by simp [persL]; omega), List.take_of_length_le (by omega)]
    exact Int.le_refl _
theorem usedAt_mono (h : okGroups gs = true) (hl : pl.length = gs.length) {j k : Nat} (hjk : j ≤ k) (r : Int) : usedAt gs pl j r ≤ usedAt gs pl k r := by
  induction k with
  | zero => rw [show j = 0 by omega]; exact Int.le_refl _
  | succ k ih =>
    by_cases e : j = k + 1
    · rw [e]; exact Int.le_refl _
    · exact Int.le_trans (ih (by omega)) (usedAt_step h hl k r)
theorem usedAt_bound (h : okGroups gs = true) (k : Nat) (r : Int) : usedAt gs pl k r ≤ 480 := by
  have hg := groups_len h
  suffices ∀ (ps q : List Int), (∀ p ∈ ps, 0 ≤ p ∧ p ≤ 40) → sumAt ps q r ≤ 40 * ps.length by
    have := this ((persL gs).take k) (pl.take k) (fun p hp => by have := pers_lim h p (List.mem_of_mem_take hp); omega)
    have h2 : ((persL gs).take k).length ≤ gs.length := by simp [persL]; omega
    unfold usedAt; omega
  intro ps
  induction ps with
  | nil => intro q _; simp [sumAt]
  | cons p ps ih =>
    intro q hp
    cases q with
    | nil => simp [sumAt]; omega
    | cons y q =>
      have := ih q (fun x hx => hp x (by simp [hx]))
      have := hp p (by simp)
      simp only [sumAt, List.length_cons]
      split <;> omega
end
def seatVal (gs : List Group) (pl : List Int) (i : Nat) : Int := if 0 ≤ rowAt pl i then usedAt gs pl i (rowAt pl i) else -1
def fsL (gs : List Group) (pl : List Int) (k : Nat) : List Int := (List.range gs.length).map (fun i => if i < k then seatVal gs pl i else 0)
def nxL (gs : List Group) (pl : List Int) (n k : Nat) : List Int := (List.range n).map (fun r : Nat => usedAt gs pl k (r : Int))
section
variable {gs : List Group} {pl : List Int} {n k : Nat} {g : Group} {x v : Int}
theorem fsL_len : (fsL gs pl k).length = gs.length := by simp [fsL]
theorem nxL_len : (nxL gs pl n k).length = n := by simp [nxL]
theorem fsL_zero : fsL gs pl 0 = List.replicate gs.length 0 := by
  apply List.ext_getElem?
  intro i
  by_cases hi : i < gs.length
  · simp [fsL, hi]
  · simp [fsL, hi]
theorem nxL_zero : nxL gs pl n 0 = List.replicate n 0 := by
  apply List.ext_getElem?
  intro i
  by_cases hi : i < n
  · simp [nxL, hi, usedAt_zero]
  · simp [nxL, hi]
theorem nxL_get (h : k < n) {j : Nat} : (nxL gs pl n j)[k]? = some (usedAt gs pl j (k : Int)) := by simp [nxL, h]
theorem fsL_get {i : Nat} (h : i < gs.length) (hk : i < k) : (fsL gs pl k)[i]? = some (seatVal gs pl i) := by simp [fsL, h, hk]
theorem fsL_at {i : Nat} (h : i < gs.length) : ∃ z, (fsL gs pl k)[i]? = some z := get_some (by rw [fsL_len]; exact h)
theorem fsL_set (h : k < gs.length) (hv : v = seatVal gs pl k) : (fsL gs pl k).set k v = fsL gs pl (k + 1) := by
  apply List.ext_getElem?
  intro i
  rw [List.getElem?_set]
  by_cases e : k = i
  · subst e; rw [if_pos rfl, if_pos (by rw [fsL_len]; exact h), fsL_get h (by omega), hv]
  · rw [if_neg e]
    by_cases hi : i < gs.length
    · simp [fsL, hi, show i < k + 1 ↔ i < k by omega]
    · simp [fsL, hi]
theorem nxL_out (hl : pl.length = gs.length) (hg : gs[k]? = some g) (hx : pl[k]? = some x) (h0 : ¬ 0 ≤ x) : nxL gs pl n (k + 1) = nxL gs pl n k := by
  apply List.map_congr_left
  intro r _
  rw [usedAt_succ hl hg hx, if_neg (by omega)]; omega
theorem nxL_set {m : Nat} (hm : m < n) (hl : pl.length = gs.length) (hg : gs[k]? = some g) (hx : pl[k]? = some (m : Int)) : (nxL gs pl n k).set m (usedAt gs pl k (m : Int) + g.persons) = nxL gs pl n (k + 1) := by
  apply List.ext_getElem?
  intro i
  rw [List.getElem?_set]
  by_cases e : m = i
  · subst e; rw [if_pos rfl, if_pos (by rw [nxL_len]; exact hm), nxL_get hm, usedAt_succ hl hg hx, if_pos rfl]
  · rw [if_neg e]
    by_cases hi : i < n
    · rw [nxL_get hi, nxL_get hi, usedAt_succ hl hg hx, if_neg (by omega), Int.add_zero]
    · simp [nxL, hi]
end
def wkTo (gs : List Group) (pl : List Int) : Nat → Int
  | 0 => 0
  | k + 1 => wkTo gs pl k + if 0 ≤ rowAt pl k ∧ some (rowAt pl k) = (gs[k]?).map Group.wish then 1 else 0
theorem wkTo_bound (gs : List Group) (pl : List Int) : ∀ k, 0 ≤ wkTo gs pl k ∧ wkTo gs pl k ≤ k
  | 0 => by simp [wkTo]
  | k + 1 => by have := wkTo_bound gs pl k; simp only [wkTo]; split <;> omega
theorem wkTo_succ {gs : List Group} {pl : List Int} {k : Nat} {g : Group} {x : Int} (hg : gs[k]? = some g) (hx : pl[k]? = some x) : wkTo gs pl (k + 1) = wkTo gs pl k + if 0 ≤ x ∧ x = g.wish then 1 else 0 := by
  simp only [wkTo, rowAt_get hx, hg, Option.map_some, Option.some.injEq]
def wishesP (gs : List Group) (pl : List Int) : Int × Int := if okGroups gs then (if areR gs pl then (wkTo gs pl pl.length, 0) else (0, 2)) else (0, 1)
def firstSeats (gs : List Group) (rs pl : List Int) : List Int × Int :=
  if okGroups gs && okRows rs then (if (leftF (persL gs) rs pl).isSome then (fsL gs pl gs.length, 0) else ([], 2)) else ([], 1)
def seatsLeftP (gs : List Group) (rs pl : List Int) : List Int × Int :=
  if okGroups gs && okRows rs then (match leftF (persL gs) rs pl with
    | some f => (f, 0)
    | none => ([], 2)) else ([], 1)
theorem fseats_len (gs : List Group) (rs pl : List Int) : (firstSeats gs rs pl).1.length ≤ 12 := by
  unfold firstSeats
  split
  · next hv =>
    rw [Bool.and_eq_true] at hv
    have := groups_len hv.1
    split
    · rw [fsL_len]; exact this
    · simp
  · simp
theorem sleft_len (gs : List Group) (rs pl : List Int) : (seatsLeftP gs rs pl).1.length ≤ 10 := by
  unfold seatsLeftP
  split
  · next hv =>
    rw [Bool.and_eq_true] at hv
    have := rows_len hv.2
    cases h : leftF (persL gs) rs pl with
    | none => simp
    | some f => have h2 := (leftF_facts _ _ _ _ (fun p hp => by have := pers_lim hv.1 p hp; omega) h).2.1; simp only; omega
  · simp
theorem leftF_hi : ∀ (ps free q f : List Int), (∀ p ∈ ps, 0 ≤ p) → leftF ps free q = some f → ∀ k, rowAt f k ≤ rowAt free k
  | ps, free, q, f, hp, h => fun k => by
    have h1 := (leftF_facts ps free q f hp h).2.2.2 k
    have h2 := sumAt_nonneg ps q (k : Int) hp
    omega
structure GroupFacts (gs : List Group) (rs pl f : List Int) : Prop where
  hl : pl.length = gs.length
  fs : firstSeats gs rs pl = (fsL gs pl gs.length, 0)
  sl : seatsLeftP gs rs pl = (f, 0)
  is : isSeat gs rs pl = true
  sp : seatedP gs pl = (seatedOf (persL gs) pl, 0)
  wp : wishesP gs pl = (wkTo gs pl pl.length, 0)
  sum : f.sum + seatedOf (persL gs) pl = rs.sum
  rg : ∀ (i : Nat) x, pl[i]? = some x → -1 ≤ x ∧ x < rs.length
  room : ∀ (i : Nat) (m : Nat) g z, gs[i]? = some g → pl[i]? = some (m : Int) → rs[m]? = some z → usedAt gs pl i (m : Int) + g.persons ≤ z
  apart : ∀ (i j m : Nat) g, j < i → gs[j]? = some g → pl[j]? = some (m : Int) → usedAt gs pl j (m : Int) + g.persons ≤ usedAt gs pl i (m : Int)
  fb : ∀ x ∈ f, 0 ≤ x ∧ x ≤ 40
theorem group_facts {gs : List Group} {rs pl f : List Int} (hv : okGroups gs = true ∧ okRows rs = true) (h : leftF (persL gs) rs pl = some f) : GroupFacts gs rs pl f := by
  have hP0 : ∀ p ∈ persL gs, 0 ≤ p := fun p hp => by have := pers_lim hv.1 p hp; omega
  have hr := rows_all hv.2
  obtain ⟨h1, h2, h3, h4⟩ := leftF_facts _ _ _ _ hP0 h
  have hlen : pl.length = gs.length := by have := okPl_len _ _ _ h1; simpa [persL] using this
  have har := areR_of (rows_len hv.2) h1
  have hnn := leftF_nn _ _ _ _ (okRow_nn hr) h
  have hand : (okGroups gs && okRows rs) = true := by rw [hv.1, hv.2]; rfl
  have hap : ∀ (i j m : Nat) g, j < i → gs[j]? = some g → pl[j]? = some (m : Int) → usedAt gs pl j (m : Int) + g.persons ≤ usedAt gs pl i (m : Int) := fun i j m g hji hg hx => by
    have e := usedAt_succ (r := (m : Int)) hlen hg hx
    rw [if_pos rfl] at e
    rw [← e]; exact usedAt_mono hv.1 hlen hji _
  refine ⟨hlen, ?_, ?_, ?_, ?_, ?_, h3, fun i x hx => okPl_range _ _ _ h1 x (List.mem_of_getElem? hx), fun i m g z hg hx hz => ?_, hap, fun x hx => ?_⟩
  · unfold firstSeats; rw [if_pos hand, h]; rfl
  · unfold seatsLeftP; rw [if_pos hand, h]
  · unfold isSeat; rw [hand, h]; rfl
  · unfold seatedP; rw [if_pos hv.1, if_pos har]
  · unfold wishesP; rw [if_pos hv.1, if_pos har]
  · have hi := lt_of_get hg
    have h5 := hap gs.length i m g hi hg hx
    have h6 := h4 m
    have h7 := nnL_at hnn (k := m)
    rw [rowAt_get hz] at h6
    have h8 : usedAt gs pl gs.length (m : Int) = sumAt (persL gs) pl (m : Int) := by
      unfold usedAt; rw [List.take_of_length_le (by simp [persL]), List.take_of_length_le (by omega)]
    omega
  · obtain ⟨j, hj⟩ := List.getElem?_of_mem hx
    have h5 := all_at hnn hj
    have h6 := leftF_hi _ _ _ _ hP0 h j
    rw [rowAt_get hj] at h6
    have hjr : j < rs.length := by have := lt_of_get hj; omega
    obtain ⟨z, hz⟩ := get_some hjr
    have h7 := all_at hr hz
    rw [rowAt_get hz] at h6
    simp only [okRow, Bool.and_eq_true, decide_eq_true_eq] at h7 h5
    omega
theorem group_none {gs : List Group} {rs pl : List Int} (h : ¬ (okGroups gs = true ∧ okRows rs = true) ∨ leftF (persL gs) rs pl = none) : (firstSeats gs rs pl).1 = [] ∧ (seatsLeftP gs rs pl).1 = [] ∧ (firstSeats gs rs pl).2 = (seatsLeftP gs rs pl).2 ∧ (firstSeats gs rs pl).2 ≠ 0 ∧ isSeat gs rs pl = false := by
  unfold firstSeats seatsLeftP isSeat
  by_cases hv : okGroups gs = true ∧ okRows rs = true
  · have h2 := h.resolve_left (fun x => x hv)
    have hand : (okGroups gs && okRows rs) = true := by rw [hv.1, hv.2]; rfl
    rw [if_pos hand, if_pos hand, h2, hand]; simp
  · have hand : ¬ (okGroups gs && okRows rs) = true := by rw [Bool.and_eq_true]; exact hv
    rw [if_neg hand, if_neg hand]
    have : (okGroups gs && okRows rs) = false := by simpa using hand
    rw [this]; simp
theorem seatVal_neg {gs : List Group} {pl : List Int} {i : Nat} {x : Int} (hx : pl[i]? = some x) (h : ¬ 0 ≤ x) : seatVal gs pl i = -1 := by
  unfold seatVal; rw [rowAt_get hx, if_neg h]
theorem seatVal_pos {gs : List Group} {pl : List Int} {i m : Nat} (hx : pl[i]? = some (m : Int)) : seatVal gs pl i = usedAt gs pl i (m : Int) := by
  unfold seatVal; rw [rowAt_get hx, if_pos (by omega)]
theorem sum_take_succ {xs : List Int} {k : Nat} {x : Int} (h : xs[k]? = some x) : (xs.take (k + 1)).sum = (xs.take k).sum + x := by rw [take_snoc h]; simp
theorem sum_bound : ∀ {xs : List Int}, (∀ x ∈ xs, 0 ≤ x ∧ x ≤ 40) → 0 ≤ xs.sum ∧ xs.sum ≤ 40 * xs.length
  | [], _ => by simp
  | x :: xs, h => by
    have := sum_bound (xs := xs) (fun y hy => h y (by simp [hy]))
    have := h x (by simp)
    simp only [List.sum_cons, List.length_cons]; omega
/-- Where the other side's walk over places stands. -/
def FreeJ (gs : List Group) (rs pl : List Int) (k : Nat) (cur : List Int) : Prop := k ≤ pl.length ∧ freeF ((persL gs).drop k) cur (pl.drop k) = freeF (persL gs) rs pl ∧ cur.length = rs.length ∧ ∀ (j : Nat) z, cur[j]? = some z → -40 * (k : Int) ≤ z ∧ z ≤ 40
theorem freeJ_zero {gs : List Group} {rs pl : List Int} (h : rs.all okRow = true) : FreeJ gs rs pl 0 rs := ⟨Nat.zero_le _, rfl, rfl, fun j z hz => by
  have := all_at h hz
  simp only [okRow, Bool.and_eq_true, decide_eq_true_eq] at this
  simp; omega⟩
section
variable {gs : List Group} {rs pl cur : List Int} {k : Nat} {g : Group} {r : Int}
theorem freeJ_cons (h : FreeJ gs rs pl k cur) (hg : gs[k]? = some g) (hr : pl[k]? = some r) : freeF (g.persons :: (persL gs).drop (k + 1)) cur (r :: pl.drop (k + 1)) = freeF (persL gs) rs pl := by
  have h1 : (persL gs).drop k = g.persons :: (persL gs).drop (k + 1) := by
    have hp := persL_get hg
    have hk := lt_of_get hp
    rw [List.drop_eq_getElem_cons hk]
    rw [List.getElem?_eq_getElem hk] at hp
    rw [Option.some.inj hp]
  have h2 : pl.drop k = r :: pl.drop (k + 1) := by
    have hk := lt_of_get hr
    rw [List.drop_eq_getElem_cons hk]
    rw [List.getElem?_eq_getElem hk] at hr
    rw [Option.some.inj hr]
  rw [← h1, ← h2]; exact h.2.1
theorem freeJ_out (h : FreeJ gs rs pl k cur) (hg : gs[k]? = some g) (hr : pl[k]? = some r) (hc : ¬ (-1 ≤ r ∧ r ≤ (rs.length : Int) - 1)) : freeF (persL gs) rs pl = none := by
  rw [← freeJ_cons h hg hr, freeF, if_neg (by rw [h.2.2.1]; exact hc)]
theorem freeJ_skip (h : FreeJ gs rs pl k cur) (hg : gs[k]? = some g) (hr : pl[k]? = some r) (hc : -1 ≤ r ∧ r ≤ (rs.length : Int) - 1) (h0 : ¬ 0 ≤ r) : FreeJ gs rs pl (k + 1) cur := by
  refine ⟨lt_of_get hr, ?_, h.2.2.1, fun j z hz => by have := h.2.2.2 j z hz; omega⟩
  have := freeJ_cons h hg hr
  rw [freeF, if_pos (by rw [h.2.2.1]; exact hc), if_neg h0] at this
  exact this
theorem freeJ_sit (h : FreeJ gs rs pl k cur) (hg : gs[k]? = some g) {n : Nat} {z : Int} (hr : pl[k]? = some (n : Int)) (hc : -1 ≤ (n : Int) ∧ (n : Int) ≤ (rs.length : Int) - 1) (hz : cur[n]? = some z) (hp : 1 ≤ g.persons ∧ g.persons ≤ 40) : FreeJ gs rs pl (k + 1) (cur.set n (z - g.persons)) := by
  have hnl := lt_of_get hz
  refine ⟨lt_of_get hr, ?_, by rw [List.length_set]; exact h.2.2.1, fun j y hy => ?_⟩
  · have := freeJ_cons h hg hr
    rw [freeF, if_pos (by rw [h.2.2.1]; exact hc), if_pos (by omega), Int.toNat_natCast, rowAt_get hz] at this
    exact this
  · rw [List.getElem?_set] at hy
    by_cases e : n = j
    · subst e
      rw [if_pos rfl, if_pos hnl] at hy
      have := h.2.2.2 n z hz
      obtain rfl := Option.some.inj hy
      omega
    · rw [if_neg e] at hy
      have := h.2.2.2 j y hy; omega
theorem freeJ_end (h : FreeJ gs rs pl pl.length cur) (hl : pl.length = gs.length) : freeF (persL gs) rs pl = some cur := by
  rw [← h.2.1, List.drop_length, hl, show gs.length = (persL gs).length by simp [persL], List.drop_length]; rfl
end
def NNto (cur : List Int) (j : Nat) : Prop := ∀ i, i < j → 0 ≤ rowAt cur i
theorem nn_zero {cur : List Int} : NNto cur 0 := fun i h => by omega
theorem nn_step {cur : List Int} {j : Nat} {y : Int} (h : NNto cur j) (hy : cur[j]? = some y) (h0 : 0 ≤ y) : NNto cur (j + 1) := fun i hi => by
  by_cases e : i = j
  · subst e; rw [rowAt_get hy]; exact h0
  · exact h i (by omega)
theorem chk_some {cur : List Int} (h : NNto cur cur.length) : chkF (some cur) = some cur := by
  have : nnL cur = true := by
    unfold nnL
    rw [List.all_eq_true]
    intro x hx
    obtain ⟨j, hj⟩ := List.getElem?_of_mem hx
    have := h j (lt_of_get hj)
    rw [rowAt_get hj] at this
    simpa using this
  simp [chkF, this]
theorem chk_none {cur : List Int} {k : Nat} {y : Int} (hy : cur[k]? = some y) (h : y < 0) : chkF (some cur) = none := by simp [chkF, nnL_not (k := k) (by rw [rowAt_get hy]; exact h)]
def GCase (gs : List Group) (rs pl : List Int) : Prop := (∃ f, (okGroups gs = true ∧ okRows rs = true) ∧ leftF (persL gs) rs pl = some f) ∨ (¬ (okGroups gs = true ∧ okRows rs = true) ∨ leftF (persL gs) rs pl = none)
theorem group_same (gs : List Group) (rs pl : List Int) (h : GCase gs rs pl) : (firstSeats gs rs pl).2 = (seatsLeftP gs rs pl).2 ∧ ((firstSeats gs rs pl).2 == 0) = isSeat gs rs pl := by
  rcases h with ⟨f, hv, hf⟩ | hb
  · have h := group_facts hv hf
    rw [h.fs, h.sl, h.is]; exact ⟨rfl, rfl⟩
  · obtain ⟨_, _, h1, h2, h3⟩ := group_none hb
    exact ⟨h1, by rw [h3]; simpa using h2⟩
theorem group_empty (gs : List Group) (rs pl : List Int) (h : GCase gs rs pl) (hne : (firstSeats gs rs pl).2 ≠ 0) : (firstSeats gs rs pl).1 = [] ∧ (seatsLeftP gs rs pl).1 = [] := by
  rcases h with ⟨f, hv, hf⟩ | hb
  · exact absurd (by rw [(group_facts hv hf).fs]) hne
  · exact ⟨(group_none hb).1, (group_none hb).2.1⟩
theorem sign_same {gs : List Group} (hok : okGroups gs = true) {pl : List Int} {i : Nat} {x : Int} (hx : pl[i]? = some x) : decide (seatVal gs pl i < 0) = decide (x < 0) := by
  by_cases h : 0 ≤ x
  · unfold seatVal
    rw [rowAt_get hx, if_pos h]
    have := usedAt_nonneg (pl := pl) hok i x
    rw [decide_eq_decide]; omega
  · rw [seatVal_neg hx h, decide_eq_decide]; omega
theorem seatVal_bound {gs : List Group} {pl : List Int} (hok : okGroups gs = true) (i : Nat) : -1 ≤ seatVal gs pl i ∧ seatVal gs pl i ≤ 480 := by
  unfold seatVal
  split
  · have := usedAt_nonneg (pl := pl) hok i (rowAt pl i)
    have := usedAt_bound (pl := pl) hok i (rowAt pl i)
    omega
  · omega
end Go.V
