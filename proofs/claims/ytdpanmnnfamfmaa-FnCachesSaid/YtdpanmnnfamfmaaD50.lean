/- Caches: the state of a walk; the best policy; files of one size. -/
import Derived.Test.YtdpanmnnfamfmaaD49
set_option linter.all false
namespace Go.V
open Go
/-- The state behind the first k uses. -/
structure CJ (sz : List UInt8 → Int) (pol cap : Int) (uses : List (List UInt8)) (k : Nat) (c : List (List UInt8)) (u m : Int) : Prop where
  le : k ≤ uses.length
  good : CGood sz cap uses c u
  run : runL sz pol cap (uses.drop k) (c, u, m) = runL sz pol cap uses ([], 0, 0)
  m0 : 0 ≤ m
  mle : m ≤ k
section
variable {sz : List UInt8 → Int} {pol cap : Int} {uses c c' : List (List UInt8)} {k : Nat} {u m u' m' : Int} {x : List UInt8}
theorem CGood.nil (hc : 0 ≤ cap) : CGood sz cap uses [] 0 := ⟨rfl, hc, (fun _ h => by cases h), List.nodup_nil⟩
theorem CJ.start (hc : 0 ≤ cap) : CJ sz pol cap uses 0 [] 0 0 := ⟨Nat.zero_le _, .nil hc, rfl, Int.le_refl _, Int.le_refl _⟩
theorem CJ.next (hx : uses[k]? = some x) (hp : ∀ x ∈ uses, 1 ≤ sz x) (h : CJ sz pol cap uses k c u m) (hs : stepC sz pol cap (uses.drop (k + 1)) x (c, u, m) = (c', u', m')) : CJ sz pol cap uses (k + 1) c' u' m' := by
  have hst := step_good (pol := pol) (rest := uses.drop (k + 1)) (s := (c, u, m)) hp (List.mem_of_getElem? hx) h.good
  rw [hs] at hst
  have hd : uses.drop k = x :: uses.drop (k + 1) := by
    have hl := lt_of_get hx
    rw [List.drop_eq_getElem_cons hl]
    rw [List.getElem?_eq_getElem hl] at hx
    rw [Option.some.inj hx]
  have hr := h.run
  rw [hd] at hr
  simp only [runL] at hr
  rw [hs] at hr
  have hc := hst.cnt
  have h0 := h.m0; have hk := h.mle
  refine ⟨lt_of_get hx, hst.good, hr, ?_, ?_⟩
  · simp only at hc; split at hc <;> omega
  · simp only at hc; split at hc <;> omega
theorem CJ.fin (h : CJ sz pol cap uses uses.length c u m) : runL sz pol cap uses ([], 0, 0) = (c, u, m) := by
  have hr := h.run
  rw [List.drop_length] at hr
  exact hr.symm
theorem step_a (h : 0 ≤ nxt c x) (hp : pol = 2) {n : Nat} (hn : nxt c x = (n : Int)) {rest : List (List UInt8)} : stepC sz pol cap rest x (c, u, m) = (c.eraseIdx n ++ [x], u, m) := by
  unfold stepC; rw [if_pos h, if_pos hp]; simp only [hn, Int.toNat_natCast]
theorem step_b (h : 0 ≤ nxt c x) (hp : ¬ pol = 2) {rest : List (List UInt8)} : stepC sz pol cap rest x (c, u, m) = (c, u, m) := by
  unfold stepC; rw [if_pos h, if_neg hp]
theorem step_c (h : ¬ 0 ≤ nxt c x) (hs : sz x > cap) {rest : List (List UInt8)} : stepC sz pol cap rest x (c, u, m) = (c, u, m + 1) := by
  unfold stepC; rw [if_neg h, if_pos hs]
theorem step_d (h : ¬ 0 ≤ nxt c x) (hs : ¬ sz x > cap) {rest : List (List UInt8)} (he : shedL sz pol cap (sz x) rest c'.length c' u' = shedL sz pol cap (sz x) rest c.length c u) (hx : ¬ u' + sz x > cap) :
    stepC sz pol cap rest x (c, u, m) = (c' ++ [x], u' + sz x, m + 1) := by
  unfold stepC; rw [if_neg h, if_neg hs]
  simp only [← he, shedL_exit hx]
end
def cacheF (ms : List NV) (uses : List (List UInt8)) (cap pol : Int) : List (List UInt8) × Int × Int := runL (lookup ms) pol cap uses ([], 0, 0)
theorem map_erase {α β : Type} (f : α → β) : ∀ (l : List α) (k : Nat), (l.map f).eraseIdx k = (l.eraseIdx k).map f
  | [], _ => by simp
  | _ :: _, 0 => by simp
  | a :: l, k + 1 => by simp [map_erase f l k]
/-- The best among the first k policies; its misses. -/
def bestP (f : Int → Int) : Nat → Int × Int
  | 0 => (0, 0)
  | k + 1 => if (bestP f k).1 = 0 ∨ f ((k : Int) + 1) < (bestP f k).2 then ((k : Int) + 1, f ((k : Int) + 1)) else bestP f k
theorem bestP_T {f : Int → Int} {k : Nat} (h : (bestP f k).1 = 0 ∨ f ((k : Int) + 1) < (bestP f k).2) : bestP f (k + 1) = ((k : Int) + 1, f ((k : Int) + 1)) := by simp only [bestP, if_pos h]
theorem bestP_F {f : Int → Int} {k : Nat} (h : ¬ ((bestP f k).1 = 0 ∨ f ((k : Int) + 1) < (bestP f k).2)) : bestP f (k + 1) = bestP f k := by simp only [bestP, if_neg h]
theorem bestP_spec (f : Int → Int) : ∀ (k : Nat), (k = 0 ∧ (bestP f k).1 = 0) ∨ (1 ≤ (bestP f k).1 ∧ (bestP f k).1 ≤ k ∧ (bestP f k).2 = f (bestP f k).1 ∧ ∀ j : Nat, j < k → (bestP f k).2 ≤ f ((j : Int) + 1))
  | 0 => .inl ⟨rfl, rfl⟩
  | k + 1 => by
    right
    by_cases h : (bestP f k).1 = 0 ∨ f ((k : Int) + 1) < (bestP f k).2
    · rw [bestP_T h]
      refine ⟨by show (1 : Int) ≤ k + 1; omega, by show (k : Int) + 1 ≤ _; omega, rfl, fun j hj => ?_⟩
      show f _ ≤ f _
      by_cases e : j = k
      · subst e; exact Int.le_refl _
      · rcases bestP_spec f k with ⟨h1, _⟩ | ⟨h1, _, h3, h4⟩
        · omega
        · have := h4 j (by omega)
          rcases h with h | h <;> omega
    · rw [bestP_F h]
      rcases bestP_spec f k with ⟨h1, h2⟩ | ⟨h1, h2, h3, h4⟩
      · exact absurd (.inl h2) h
      · refine ⟨h1, by omega, h3, fun j hj => ?_⟩
        by_cases e : j = k
        · subst e; omega
        · exact h4 j (by omega)
def missF (ms : List NV) (uses : List (List UInt8)) (cap pol : Int) : Int := (cacheF ms uses cap pol).2.2
/-- What is in no list twice, in the order in which it comes. -/
def seenOf : List (List UInt8) → List (List UInt8)
  | l => l.foldl (fun s x => if x ∈ s then s else s ++ [x]) []
theorem seenOf_snoc (l : List (List UInt8)) (x : List UInt8) : seenOf (l ++ [x]) = if x ∈ seenOf l then seenOf l else seenOf l ++ [x] := by
  unfold seenOf; rw [List.foldl_append]; rfl
theorem seenOf_facts (l : List (List UInt8)) : (seenOf l).Nodup ∧ (∀ x ∈ seenOf l, x ∈ l) ∧ (seenOf l).length ≤ l.length := by
  have key : ∀ (l s : List (List UInt8)), s.Nodup → (l.foldl (fun s x => if x ∈ s then s else s ++ [x]) s).Nodup ∧ (∀ x ∈ l.foldl (fun s x => if x ∈ s then s else s ++ [x]) s, x ∈ l ∨ x ∈ s) := by
    intro l
    induction l with
    | nil => intro s hs; exact ⟨hs, fun x hx => .inr hx⟩
    | cons a l ih =>
      intro s hs
      rw [List.foldl_cons]
      by_cases h : a ∈ s
      · rw [if_pos h]
        obtain ⟨h1, h2⟩ := ih s hs
        exact ⟨h1, fun x hx => (h2 x hx).imp (fun e => List.mem_cons_of_mem _ e) id⟩
      · rw [if_neg h]
        obtain ⟨h1, h2⟩ := ih (s ++ [a]) (nodup_snoc hs h)
        refine ⟨h1, fun x hx => ?_⟩
        rcases h2 x hx with e | e
        · exact .inl (List.mem_cons_of_mem _ e)
        · rcases List.mem_append.1 e with e | e
          · exact .inr e
          · rw [List.mem_singleton] at e; subst e; exact .inl List.mem_cons_self
  obtain ⟨h1, h2⟩ := key l [] List.nodup_nil
  have h3 : ∀ x ∈ seenOf l, x ∈ l := fun x hx => (h2 x hx).resolve_right (by simp)
  exact ⟨h1, h3, nodup_le h1 h3⟩
theorem total_sum {sz : List UInt8 → Int} (c : List (List UInt8)) : ∀ (k : Nat), k ≤ c.length → sumTo sz c k = total sz (c.take k)
  | 0, _ => by simp [sumTo, total]
  | k + 1, hk => by
    obtain ⟨x, hx⟩ := get_some (xs := c) (k := k) (by omega)
    rw [take_snoc hx, total_snoc, ← total_sum c k (by omega)]
    simp [sumTo, hx]
structure CacheL (ms : List NV) (uses : List (List UInt8)) (cap : Int) : Prop where
  ok : okMedias ms = true
  cap1 : 1 ≤ cap
  fnd : ∀ x ∈ uses, lookup ms x ≠ 0
  len : uses.length ≤ 20
theorem CacheL.one {ms : List NV} {uses : List (List UInt8)} {cap : Int} (h : CacheL ms uses cap) : ∀ x ∈ uses, 1 ≤ lookup ms x := fun x hx => by
  have h1 := h.fnd x hx; have h2 := lookup_lim h.ok x; omega
theorem cache_facts {ms : List NV} {uses : List (List UInt8)} {cap : Int} (h : CacheL ms uses cap) (pol : Int) :
    (totalSize ms (cacheF ms uses cap pol).1).2 = 0 ∧ (totalSize ms (cacheF ms uses cap pol).1).1 ≤ cap ∧ ((seenOf uses).length : Int) ≤ missF ms uses cap pol ∧ missF ms uses cap pol ≤ uses.length ∧ (cacheF ms uses cap pol).1.length ≤ 20 := by
  have hg0 : CGood (lookup ms) cap uses ([] : List (List UInt8)) 0 := CGood.nil (by have := h.cap1; omega)
  obtain ⟨hg, _, hle⟩ := run_good (pol := pol) h.one uses ([], 0, 0) (fun _ h => h) hg0
  obtain ⟨s1, s2, _⟩ := seenOf_facts uses
  have hl := run_least (pol := pol) h.one uses ([], 0, 0) (seenOf uses) (fun _ h => h) hg0 s1 s2 (by simp)
  have hlen := nodup_le hg.nd hg.sub
  have hll := h.len
  have hask : askUses ms (cacheF ms uses cap pol).1 = 0 := by
    have hnf : ∀ x ∈ (cacheF ms uses cap pol).1, lookup ms x ≠ 0 := fun x hx => h.fnd x (hg.sub x hx)
    have hlc : (cacheF ms uses cap pol).1.length ≤ 20 := by unfold cacheF; omega
    have hok := h.ok
    unfold askUses
    grind
  rw [total_eq, if_pos hask]
  refine ⟨rfl, ?_, ?_, ?_, ?_⟩
  · show sumTo _ _ _ ≤ cap
    rw [total_sum _ _ (Nat.le_refl _), List.take_length]
    have := hg.sum; have := hg.le
    unfold cacheF; omega
  · unfold missF cacheF; simp only at hl; omega
  · unfold missF cacheF; simp only at hle; omega
  · unfold cacheF; omega
theorem unit_best {ms : List NV} {uses : List (List UInt8)} {cap : Int} (h : CacheL ms uses cap) (hu : ∀ x ∈ uses, lookup ms x = 5) (pol : Int) : missF ms uses cap 3 ≤ missF ms uses cap pol := by
  have hg0 : CGood (lookup ms) cap uses ([] : List (List UInt8)) 0 := CGood.nil (by have := h.cap1; omega)
  unfold missF cacheF
  by_cases hc : cap < 5
  · rw [run_none hu hc uses 0 (fun _ h => h), run_none hu hc uses 0 (fun _ h => h)]; exact Int.le_refl _
  · obtain ⟨m, hm⟩ : ∃ m : Nat, (m : Int) = cap / 5 := ⟨(cap / 5).toNat, by omega⟩
    obtain ⟨n, h1, h2⟩ := run_crun (pol := pol) hu hm (by omega) uses ([], 0, 0) (fun _ h => h) hg0
    have h3 := run_best hu hm (by omega) uses ([], 0, 0) n (fun _ h => h) hg0 h1
    omega
end Go.V
