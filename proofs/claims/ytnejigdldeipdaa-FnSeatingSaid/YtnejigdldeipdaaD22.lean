/- Groups seated one after the other, as a plain function. -/
import Derived.Test.YtnejigdldeipdaaD21
set_option linter.all false
namespace Go.V
open Go
def pAt (gs : List Group) (o : Int) : Int := ((gs[o.toNat]?).map Group.persons).getD 0
theorem pAt_get {gs : List Group} {k : Nat} {g : Group} (h : gs[k]? = some g) : pAt gs (k : Int) = g.persons := by simp [pAt, h]
def insPos (gt : Int → Bool) (out : List Int) : Nat → Nat
  | 0 => 0
  | a + 1 => if gt (rowAt out a) then insPos gt out a else a + 1
theorem insPos_le (gt : Int → Bool) (out : List Int) : ∀ n, insPos gt out n ≤ n
  | 0 => Nat.le_refl _
  | a + 1 => by
    simp only [insPos]
    split
    · exact Nat.le_succ_of_le (insPos_le gt out a)
    · exact Nat.le_refl _
def insAt (gt : Int → Bool) (out : List Int) (x : Int) : List Int := out.take (insPos gt out out.length) ++ [x] ++ out.drop (insPos gt out out.length)
def beP (gs : List Group) (i : Nat) (o : Int) : Bool := decide (pAt gs o < pAt gs (i : Int))
def ordTo (gs : List Group) : Nat → List Int
  | 0 => []
  | i + 1 => insAt (beP gs i) (ordTo gs i) (i : Int)
theorem insAt_length (gt : Int → Bool) (out : List Int) (x : Int) : (insAt gt out x).length = out.length + 1 := by
  have := insPos_le gt out out.length
  simp [insAt]; omega
theorem insAt_mem {gt : Int → Bool} {out : List Int} {x y : Int} (h : y ∈ insAt gt out x) : y = x ∨ y ∈ out := by
  simp only [insAt, List.mem_append, List.mem_singleton] at h
  rcases h with (h | h) | h
  · exact .inr (List.mem_of_mem_take h)
  · exact .inl h
  · exact .inr (List.mem_of_mem_drop h)
theorem ordTo_length (gs : List Group) : ∀ n, (ordTo gs n).length = n
  | 0 => rfl
  | n + 1 => by rw [ordTo, insAt_length, ordTo_length gs n]
theorem ordTo_mem (gs : List Group) : ∀ (n : Nat) {y : Int}, y ∈ ordTo gs n → 0 ≤ y ∧ y < n
  | 0, y, h => by simp [ordTo] at h
  | n + 1, y, h => by
    rcases insAt_mem h with e | e
    · subst e; omega
    · have := ordTo_mem gs n e; omega
theorem ordTo_perm (gs : List Group) : ∀ n, (ordTo gs n).Perm ((List.range n).map (fun k : Nat => (k : Int)))
  | 0 => .nil
  | n + 1 => by
    rw [ordTo, List.range_succ, List.map_append]
    refine List.Perm.trans ?_ ((ordTo_perm gs n).append_right _)
    simp only [insAt, List.map_cons, List.map_nil]
    have h : ∀ p, ((ordTo gs n).take p ++ [(n : Int)] ++ (ordTo gs n).drop p).Perm (ordTo gs n ++ [(n : Int)]) := fun p => by
      have h2 : ((ordTo gs n).take p ++ [(n : Int)] ++ (ordTo gs n).drop p).Perm ((ordTo gs n).take p ++ (ordTo gs n).drop p ++ [(n : Int)]) := by
        rw [List.append_assoc, List.append_assoc]; exact List.Perm.append_left _ List.perm_append_comm
      rwa [List.take_append_drop] at h2
    exact h _
def seatTo (free : List Int) (p : Int) : Nat → Int
  | 0 => -1
  | k + 1 => if p ≤ rowAt free k ∧ (seatTo free p k < 0 ∨ rowAt free k < rowAt free (seatTo free p k).toNat) then (k : Int) else seatTo free p k
theorem seatTo_range (free : List Int) (p : Int) : ∀ k, -1 ≤ seatTo free p k ∧ seatTo free p k < k ∧ (0 ≤ seatTo free p k → p ≤ rowAt free (seatTo free p k).toNat)
  | 0 => by simp [seatTo]
  | k + 1 => by
    have h := seatTo_range free p k
    simp only [seatTo]
    split
    · next hc => exact ⟨by omega, by omega, fun _ => by simpa using hc.1⟩
    · exact ⟨h.1, by omega, h.2.2⟩
def gStep (gs : List Group) (s : List Int × List Int) (i : Int) : List Int × List Int :=
  (if 0 ≤ seatTo s.1 (pAt gs i) s.1.length then s.1.set (seatTo s.1 (pAt gs i) s.1.length).toNat (rowAt s.1 (seatTo s.1 (pAt gs i) s.1.length).toNat - pAt gs i) else s.1,
   s.2.set i.toNat (seatTo s.1 (pAt gs i) s.1.length))
def greedyTo (gs : List Group) (rs : List Int) (k : Nat) : List Int × List Int := ((ordTo gs gs.length).take k).foldl (gStep gs) (rs, List.replicate gs.length 0)
def greedyS (gs : List Group) (rs : List Int) : List Int × Int :=
  if okGroups gs && okRows rs then ((greedyTo gs rs gs.length).2, 0) else ([], 1)
theorem greedyTo_zero (gs : List Group) (rs : List Int) : greedyTo gs rs 0 = (rs, List.replicate gs.length 0) := rfl
theorem greedyTo_succ {gs : List Group} {rs : List Int} {k : Nat} {x : Int} (h : (ordTo gs gs.length)[k]? = some x) : greedyTo gs rs (k + 1) = gStep gs (greedyTo gs rs k) x := by
  unfold greedyTo; rw [take_snoc h, List.foldl_append]; rfl
theorem gStep_len (gs : List Group) (s : List Int × List Int) (i : Int) : (gStep gs s i).1.length = s.1.length ∧ (gStep gs s i).2.length = s.2.length := by
  constructor
  · simp only [gStep]; split <;> simp
  · simp [gStep]
theorem gStep_ok {gs : List Group} {s : List Int × List Int} {i : Int} (hp : 0 ≤ pAt gs i) (h : s.1.all okRow = true) : (gStep gs s i).1.all okRow = true := by
  simp only [gStep]
  split
  · next hb =>
    have h2 := seatTo_range s.1 (pAt gs i) s.1.length
    have h3 := h2.2.2 hb
    refine rows_set h ?_
    have hlt : (seatTo s.1 (pAt gs i) s.1.length).toNat < s.1.length := by omega
    obtain ⟨z, hz⟩ := get_some hlt
    have hzr := all_at h hz
    rw [rowAt_get hz] at h3 ⊢
    simp only [okRow, Bool.and_eq_true, decide_eq_true_eq] at hzr ⊢
    omega
  · exact h
theorem greedyTo_len (gs : List Group) (rs : List Int) (k : Nat) : (greedyTo gs rs k).1.length = rs.length ∧ (greedyTo gs rs k).2.length = gs.length := by
  unfold greedyTo
  generalize (ordTo gs gs.length).take k = l
  suffices ∀ (l : List Int) (s : List Int × List Int), (l.foldl (gStep gs) s).1.length = s.1.length ∧ (l.foldl (gStep gs) s).2.length = s.2.length by
    have h := this l (rs, List.replicate gs.length 0); simpa using h
  intro l
  induction l with
  | nil => intro s; exact ⟨rfl, rfl⟩
  | cons x l ih => intro s; have h := ih (gStep gs s x); have h2 := gStep_len gs s x; exact ⟨h.1.trans h2.1, h.2.trans h2.2⟩
theorem pAt_nonneg {gs : List Group} (h : okGroups gs = true) (i : Int) : 0 ≤ pAt gs i ∧ pAt gs i ≤ 40 := by
  unfold pAt
  cases hg : gs[i.toNat]? with
  | none => simp
  | some g => have := group_lim (groups_at h hg); simp; omega
theorem greedyTo_ok {gs : List Group} {rs : List Int} (h : okGroups gs = true) (hr : rs.all okRow = true) (k : Nat) : (greedyTo gs rs k).1.all okRow = true := by
  unfold greedyTo
  generalize (ordTo gs gs.length).take k = l
  suffices ∀ (l : List Int) (s : List Int × List Int), s.1.all okRow = true → (l.foldl (gStep gs) s).1.all okRow = true from this l _ hr
  intro l
  induction l with
  | nil => intro s h; exact h
  | cons x l ih => intro s h2; exact ih _ (gStep_ok (pAt_nonneg h x).1 h2)
theorem greedy_bad {gs : List Group} {rs : List Int} (h : ¬ (okGroups gs = true ∧ okRows rs = true)) : greedyS gs rs = ([], 1) := by
  unfold greedyS; rw [if_neg (by rw [Bool.and_eq_true]; exact h)]
theorem greedy_run {gs : List Group} {rs : List Int} (h : okGroups gs = true ∧ okRows rs = true) : greedyS gs rs = ((greedyTo gs rs gs.length).2, 0) := by
  unfold greedyS; rw [if_pos (by rw [Bool.and_eq_true]; exact h)]
end Go.V
