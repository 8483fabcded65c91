/- Caches: what is needed farthest away is best dropped. -/
namespace Go.V
section
variable {α : Type} [DecidableEq α]
theorem idxOf_ne {u x : α} {us : List α} (h : u ≠ x) : (u :: us).idxOf x = us.idxOf x + 1 := by
  rw [List.idxOf_cons]
  have : (u == x) = false := by simpa using h
  rw [this]; rfl
/-- Some way to use a cache of m places: what is used is in the cache behind its use; n misses. -/
inductive CRun (m : Nat) : List α → List α → Nat → Prop where
  | nil (C : List α) : CRun m C [] 0
  | hit {C C2 us : List α} {x : α} {n : Nat} (hx : x ∈ C) (hs : ∀ y ∈ C2, y ∈ C) (hx2 : x ∈ C2) (hl : C2.length ≤ m) (h : CRun m C2 us n) : CRun m C (x :: us) n
  | miss {C C2 us : List α} {x : α} {n : Nat} (hx : x ∉ C) (hs : ∀ y ∈ C2, y = x ∨ y ∈ C) (hx2 : x ∈ C2) (hl : C2.length ≤ m) (h : CRun m C2 us n) : CRun m C (x :: us) (n + 1)
theorem CRun.more {m : Nat} {C D us : List α} {n : Nat} (h : CRun m D us n) (hs : ∀ y ∈ D, y ∈ C) : ∃ n2, n2 ≤ n ∧ CRun m C us n2 := by
  cases h with
  | nil => exact ⟨0, Nat.le_refl _, .nil _⟩
  | hit hx h1 h2 hl h => exact ⟨_, Nat.le_refl _, .hit (hs _ hx) (fun y hy => hs y (h1 y hy)) h2 hl h⟩
  | @miss _ C2 us x n hx h1 h2 hl h =>
    by_cases hc : x ∈ C
    · refine ⟨n, by omega, .hit hc (fun y hy => ?_) h2 hl h⟩
      rcases h1 y hy with e | e
      · rw [e]; exact hc
      · exact hs y e
    · exact ⟨_, Nat.le_refl _, .miss hc (fun y hy => (h1 y hy).imp id (hs y)) h2 hl h⟩
theorem CRun.lack {m : Nat} {us : List α} : ∀ {C D : List α} {n : Nat} {y : α}, CRun m D us n → C.length ≤ m → (∀ z ∈ D, z = y ∨ z ∈ C) → ∃ n2, n2 ≤ n + 1 ∧ CRun m C us n2 := by
  induction us with
  | nil => intro C D n y h _ _; exact ⟨0, Nat.zero_le _, .nil _⟩
  | cons u us ih =>
    intro C D n y h hm hs
    cases h with
    | @hit _ C2 _ _ _ hx h1 h2 hl h =>
      by_cases hc : u ∈ C
      · obtain ⟨n2, h3, h4⟩ := ih (C := C) (y := y) h hm (fun z hz => hs z (h1 z hz))
        exact ⟨n2, h3, .hit hc (fun _ h => h) hc hm h4⟩
      · have hy : u = y := (hs u hx).resolve_right hc
        refine ⟨n + 1, Nat.le_refl _, .miss hc (fun z hz => ?_) h2 hl h⟩
        rw [hy]; exact hs z (h1 z hz)
    | @miss _ C2 _ _ n hx h1 h2 hl h =>
      by_cases hc : u ∈ C
      · obtain ⟨n2, h3, h4⟩ := ih (C := C) (y := y) h hm (fun z hz => by
          rcases h1 z hz with e | e
          · rw [e]; exact .inr hc
          · exact hs z e)
        exact ⟨n2, by omega, .hit hc (fun _ h => h) hc hm h4⟩
      · by_cases hu : u = y
        · refine ⟨n + 1, by omega, .miss hc (fun z hz => ?_) h2 hl h⟩
          rcases h1 z hz with e | e
          · exact .inl e
          · rcases hs z e with e2 | e2
            · rw [e2, ← hu]; exact .inl rfl
            · exact .inr e2
        · have hm2 : (C2.filter (fun z => z ≠ y)).length ≤ m := Nat.le_trans (List.length_filter_le _ _) hl
          obtain ⟨n2, h3, h4⟩ := ih (C := C2.filter (fun z => z ≠ y)) (y := y) h hm2 (fun z hz => by
            by_cases hz2 : z = y
            · exact .inl hz2
            · exact .inr (List.mem_filter.2 ⟨hz, by simpa using hz2⟩))
          refine ⟨n2 + 1, by omega, .miss hc (fun z hz => ?_) (List.mem_filter.2 ⟨h2, by simpa using hu⟩) hm2 h4⟩
          obtain ⟨hz1, hz2⟩ := List.mem_filter.1 hz
          rcases h1 z hz1 with e | e
          · exact .inl e
          · exact .inr ((hs z e).resolve_left (by simpa using hz2))
theorem CRun.swap {m : Nat} {us : List α} : ∀ {C D : List α} {n : Nat} {x y : α}, CRun m D us n → C.length ≤ m → (∀ z ∈ D, z = y ∨ z ∈ C) → x ∈ C → x ∉ D → us.idxOf x ≤ us.idxOf y → ∃ n2, n2 ≤ n ∧ CRun m C us n2 := by
  induction us with
  | nil => intro C D n x y h _ _ _ _ _; exact ⟨0, Nat.zero_le _, .nil _⟩
  | cons u us ih =>
    intro C D n x y h hm hs hx hxD hd
    by_cases hyD : y ∈ D
    case neg => exact h.more (fun z hz => (hs z hz).resolve_left (fun e => hyD (e ▸ hz)))
    by_cases hyC : y ∈ C
    · exact h.more (fun z hz => by rcases hs z hz with e | e; (rw [e]; exact hyC); exact e)
    have huy : u ≠ y := by
      intro e
      subst e
      rw [List.idxOf_cons_self] at hd
      by_cases hux : u = x
      · exact hxD (hux ▸ hyD)
      · rw [idxOf_ne hux] at hd; omega
    have hdn : u ≠ x → us.idxOf x ≤ us.idxOf y := by
      intro hux
      rw [idxOf_ne hux, idxOf_ne huy] at hd; omega
    cases h with
    | @hit _ C2 _ _ _ hu h1 h2 hl h =>
      have hux : u ≠ x := fun e => hxD (e ▸ hu)
      have hc : u ∈ C := (hs u hu).resolve_left huy
      obtain ⟨n2, h3, h4⟩ := ih (C := C) (x := x) (y := y) h hm (fun z hz => hs z (h1 z hz)) hx (fun e => hxD (h1 x e)) (hdn hux)
      exact ⟨n2, h3, .hit hc (fun _ h => h) hc hm h4⟩
    | @miss _ C2 _ _ n hu h1 h2 hl h =>
      by_cases hux : u = x
      · subst hux
        obtain ⟨n2, h3, h4⟩ := h.lack (C := C) (y := y) hm (fun z hz => by
          rcases h1 z hz with e | e
          · rw [e]; exact .inr hx
          · exact hs z e)
        exact ⟨n2, h3, .hit hx (fun _ h => h) hx hm h4⟩
      · have hxC2 : x ∉ C2 := fun e => by
          rcases h1 x e with e2 | e2
          · exact hux e2.symm
          · exact hxD e2
        by_cases hc : u ∈ C
        · obtain ⟨n2, h3, h4⟩ := ih (C := C) (x := x) (y := y) h hm (fun z hz => by
            rcases h1 z hz with e | e
            · rw [e]; exact .inr hc
            · exact hs z e) hx hxC2 (hdn hux)
          exact ⟨n2, by omega, .hit hc (fun _ h => h) hc hm h4⟩
        · by_cases hy2 : y ∈ C2
          · have hlt : (C2.filter (fun z => z ≠ y)).length < C2.length := by
              apply List.length_filter_lt_length_iff_exists.2
              exact ⟨y, hy2, by simp⟩
            have hm2 : (x :: C2.filter (fun z => z ≠ y)).length ≤ m := by simp only [List.length_cons]; omega
            obtain ⟨n2, h3, h4⟩ := ih (C := x :: C2.filter (fun z => z ≠ y)) (x := x) (y := y) h hm2 (fun z hz => by
              by_cases hz2 : z = y
              · exact .inl hz2
              · exact .inr (List.mem_cons_of_mem _ (List.mem_filter.2 ⟨hz, by simpa using hz2⟩))) List.mem_cons_self hxC2 (hdn hux)
            refine ⟨n2 + 1, by omega, .miss hc (fun z hz => ?_) (List.mem_cons_of_mem _ (List.mem_filter.2 ⟨h2, by simpa using huy⟩)) hm2 h4⟩
            rcases List.mem_cons.1 hz with e | e
            · rw [e]; exact .inr hx
            · obtain ⟨hz1, hz2⟩ := List.mem_filter.1 e
              rcases h1 z hz1 with e | e
              · exact .inl e
              · exact .inr ((hs z e).resolve_left (by simpa using hz2))
          · refine ⟨n + 1, Nat.le_refl _, .miss hc (fun z hz => ?_) h2 hl h⟩
            rcases h1 z hz with e | e
            · exact .inl e
            · exact .inr ((hs z e).resolve_left (fun e2 => hy2 (e2 ▸ hz)))
end
end Go.V
