/- The calculus' rules: rows that bear slices of their own. -/
import Derived.Test.YtbbechcbdeknnaaV16
set_option linter.all false
namespace Go.V
open Go Go.RowKit

/-- Slices, each of one's own, with the values that are their handles. -/
def PoolR (ty : TypeId) (rs : Nat) (S : Nat → Prop) (w : World) : List (Value × Option (List (List PV))) → List Nat → Prop
  | [], F => F = []
  | (_, none) :: l, F => PoolR ty rs S w l F
  | (v, some rows) :: l, F => ∃ F1 F2, F = F1 ++ F2 ∧ (∀ k ∈ F1, k ∉ F2) ∧ RRes (fun _ => v) S w v F1 (.vec ty rs rows) ∧ PoolR ty rs S w l F2
section
variable {ty rs ity irs : Nat} {S S' : Nat → Prop} {w w' : World}
theorem PoolR.mono (hw : Same S w w') (hS : ∀ k, k < w.heap.size → S' k → S k) : ∀ (l : List (Value × Option (List (List PV)))) (F : List Nat), (∀ k ∈ F, w'.heap[k]? = w.heap[k]?) → PoolR ty rs S w l F → PoolR ty rs S' w' l F
  | [], F, _, h => h
  | (_, none) :: l, F, hF, h => PoolR.mono hw hS l F hF h
  | (v, some rows) :: l, F, hF, h => by
    obtain ⟨F1, F2, rfl, h2, h3, h4⟩ := h
    exact ⟨F1, F2, rfl, h2, RRes.mono hw hS (fun k hk => hF k (by simp [hk])) (.vec ty rs rows) (fun _ _ => rfl) h3, PoolR.mono hw hS l F2 (fun k hk => hF k (by simp [hk])) h4⟩
theorem PoolR.add : ∀ (l : List (Value × Option (List (List PV)))) (F : List Nat) (v : Value) (rows : List (List PV)) (F1 : List Nat), PoolR ty rs S w l F → (∀ k ∈ F1, k ∉ F) → RRes (fun _ => v) S w v F1 (.vec ty rs rows) → PoolR ty rs S w (l ++ [(v, some rows)]) (F ++ F1)
  | [], F, v, rows, F1, h, hd, hr => by
    simp only [PoolR] at h; subst h
    exact ⟨F1, [], by simp, by simp, hr, rfl⟩
  | (_, none) :: l, F, v, rows, F1, h, hd, hr => PoolR.add l F v rows F1 h hd hr
  | (v0, some rows0) :: l, F, v, rows, F1, h, hd, hr => by
    obtain ⟨G1, G2, rfl, h2, h3, h4⟩ := h
    refine ⟨G1, G2 ++ F1, by simp, fun k hk hm => ?_, h3, PoolR.add l G2 v rows F1 h4 (fun k hk hm => hd k hk (by simp [hm])) hr⟩
    rcases List.mem_append.1 hm with hm | hm
    · exact h2 k hk hm
    · exact hd k hm (by simp [hk])
theorem PoolR.take : ∀ (l : List (Value × Option (List (List PV)))) (F : List Nat) (j : Nat) (v : Value) (rows : List (List PV)), PoolR ty rs S w l F → l[j]? = some (v, some rows) →
    ∃ F1 F2, RRes (fun _ => v) S w v F1 (.vec ty rs rows) ∧ PoolR ty rs S w (l.set j (v, none)) F2 ∧ (∀ k, k ∈ F ↔ k ∈ F1 ∨ k ∈ F2) ∧ ∀ k ∈ F1, k ∉ F2
  | [], _, _, _, _, _, h => by simp at h
  | (v0, some rows0) :: l, F, 0, v, rows, h, hj => by
    simp only [List.getElem?_cons_zero, Option.some.injEq, Prod.mk.injEq] at hj
    obtain ⟨rfl, rfl⟩ := hj
    obtain ⟨F1, F2, rfl, h2, h3, h4⟩ := h
    exact ⟨F1, F2, h3, h4, fun k => List.mem_append, h2⟩
  | (v0, none) :: l, F, 0, v, rows, h, hj => by simp at hj
  | (v0, none) :: l, F, j + 1, v, rows, h, hj => by
    simp only [List.getElem?_cons_succ] at hj
    exact PoolR.take l F j v rows h hj
  | (v0, some rows0) :: l, F, j + 1, v, rows, h, hj => by
    simp only [List.getElem?_cons_succ] at hj
    obtain ⟨G1, G2, rfl, h2, h3, h4⟩ := h
    obtain ⟨F1, F2, e1, e2, e3, e4⟩ := PoolR.take l G2 j v rows h4 hj
    refine ⟨F1, G1 ++ F2, e1, ⟨G1, F2, rfl, fun k hk hm => h2 k hk ((e3 k).2 (.inr hm)), h3, e2⟩, fun k => ?_, fun k hk hm => ?_⟩
    · simp only [List.mem_append, e3 k]
      constructor
      · rintro (h | h | h) <;> simp [h]
      · rintro (h | h | h) <;> simp [h]
    · rcases List.mem_append.1 hm with hm | hm
      · exact h2 k hm ((e3 k).2 (.inl hk))
      · exact e4 k hk hm
theorem PoolR.give : ∀ (l : List (Value × Option (List (List PV)))) (F : List Nat) (j : Nat) (v : Value) (rows : List (List PV)) (F1 : List Nat), PoolR ty rs S w l F → l[j]? = some (v, none) → RRes (fun _ => v) S w v F1 (.vec ty rs rows) → (∀ k ∈ F1, k ∉ F) →
    ∃ F2, PoolR ty rs S w (l.set j (v, some rows)) F2 ∧ ∀ k, k ∈ F2 ↔ k ∈ F ∨ k ∈ F1
  | [], _, _, _, _, _, _, h, _, _ => by simp at h
  | (v0, none) :: l, F, 0, v, rows, F1, h, hj, hr, hd => by
    simp only [List.getElem?_cons_zero, Option.some.injEq, Prod.mk.injEq] at hj
    obtain ⟨rfl, _⟩ := hj
    exact ⟨F1 ++ F, ⟨F1, F, rfl, hd, hr, h⟩, fun k => by rw [List.mem_append]; exact Or.comm⟩
  | (v0, some rows0) :: l, F, 0, v, rows, F1, h, hj, _, _ => by simp at hj
  | (v0, none) :: l, F, j + 1, v, rows, F1, h, hj, hr, hd => by
    simp only [List.getElem?_cons_succ] at hj
    exact PoolR.give l F j v rows F1 h hj hr hd
  | (v0, some rows0) :: l, F, j + 1, v, rows, F1, h, hj, hr, hd => by
    simp only [List.getElem?_cons_succ] at hj
    obtain ⟨G1, G2, rfl, h2, h3, h4⟩ := h
    obtain ⟨F2, e1, e2⟩ := PoolR.give l G2 j v rows F1 h4 hj hr (fun k hk hm => hd k hk (by simp [hm]))
    refine ⟨G1 ++ F2, ⟨G1, F2, rfl, fun k hk hm => ?_, h3, e1⟩, fun k => ?_⟩
    · rcases (e2 k).1 hm with hm | hm
      · exact h2 k hk hm
      · exact hd k hm (by simp [hk])
    · simp only [List.mem_append, e2 k]
      constructor
      · rintro (h | h | h) <;> simp [h]
      · rintro ((h | h) | h) <;> simp [h]
theorem PoolR.at : ∀ (l : List (Value × Option (List (List PV)))) (F : List Nat) (j : Nat) (v : Value) (rows : List (List PV)), PoolR ty rs S w l F → l[j]? = some (v, some rows) → ∃ F1, RRes (fun _ => v) S w v F1 (.vec ty rs rows) := fun l F j v rows h hj => by
  obtain ⟨F1, _, h1, _⟩ := PoolR.take l F j v rows h hj
  exact ⟨F1, h1⟩
theorem vec_viewR {η : Nat → Value} {hd : Value} {F : List Nat} {rows : List (List PV)} (h : RRes η S w hd F (.vec ty rs rows)) : Rel (fun _ => False) w (.sl rs rows) hd := by
  have h0 := h
  obtain ⟨xs, h1, h2, h3, h4⟩ := h
  simp only [Rel]
  rcases h3.2 with ⟨e, hn⟩ | ⟨g, cap, cur, e, _, hgb, hnc, _⟩
  · exact ⟨none, 0, by rw [e, hn], by omega, .inl (List.eq_nil_of_length_eq_zero hn)⟩
  · refine ⟨_, cap, e, hnc, .inr ⟨g, 0, rfl, (fun h => h), (Array.getElem?_eq_some_iff.1 hgb).1, ?_⟩⟩
    refine RelRows.mono (S := S) (w := w) ⟨Nat.le_refl _, fun _ _ _ => rfl⟩ (fun _ _ h => h.elim) rfl 0 rows (relRows_of_at rows 0 h2 (fun i r hir => ?_))
    have := h0.row hir (b := g) (by rw [e]; rfl)
    simpa using this

def poolC (ty rs : Nat) (l : List (Value × Option (List (List PV)))) : Cust where
  R := fun S w hd F => hd = .pointer none ∧ PoolR ty rs S w l F
  view := none
  mono := fun hw hS hF ⟨h1, h2⟩ => ⟨h1, PoolR.mono hw hS l _ hF h2⟩
  shape := fun ⟨h1, _⟩ => .inl ⟨_, h1⟩
  ok := fun h => by cases h
/-- A slice of one's own, whose handle is that value. -/
def vecAt (v : Value) (ty rs : Nat) (rows : List (List PV)) : Cust where
  R := fun S w hd F => hd = v ∧ RRes (fun _ => v) S w v F (.vec ty rs rows)
  view := some (.sl rs rows)
  mono := fun hw hS hF ⟨h1, h2⟩ => ⟨h1, RRes.mono hw hS hF (.vec ty rs rows) (fun _ _ => rfl) h2⟩
  shape := fun ⟨h1, h2⟩ => by rw [h1]; exact hd_shape h2
  ok := fun h ⟨h1, h2⟩ => by cases h; rw [h1]; exact vec_viewR h2
/-- The rows: what they hold beside the slice, and its handle. -/
def rowsV (cs : List (List PV)) (vs : List Value) : List (List PV) := List.zipWith (fun c v => c ++ [.v v]) cs vs
def poolL (vs : List Value) (ins : List (List (List PV))) : List (Value × Option (List (List PV))) := List.zipWith (fun v r => (v, some r)) vs ins
def nestL (irs : Nat) (cs : List (List PV)) (ins : List (List (List PV))) : List (List PV) := List.zipWith (fun c r => c ++ [.sl irs r]) cs ins
theorem relAt_append {b : Nat} : ∀ (l : List PV) (o : Nat) (l' : List PV), RelAt S w b o (l ++ l') ↔ RelAt S w b o l ∧ RelAt S w b (o + l.length) l'
  | [], o, l' => by simp [RelAt]
  | c :: l, o, l' => by
    simp only [List.cons_append, RelAt, relAt_append l (o + 1) l', List.length_cons]
    rw [show o + 1 + l.length = o + (l.length + 1) by omega, and_assoc]
theorem nest_view {hd : Value} {F1 F2 : List Nat} {cs : List (List PV)} {ins : List (List (List PV))} {vs : List Value} (hl1 : vs.length = cs.length) (hl2 : ins.length = cs.length)
    (h1 : RRes (fun _ => hd) S w hd F1 (.vec ty rs (rowsV cs vs))) (h2 : PoolR ity irs S w (poolL vs ins) F2) : Rel (fun _ => False) w (.sl rs (nestL irs cs ins)) hd := by
  have h0 := h1
  obtain ⟨xs, e1, e2, e3, e4⟩ := h1
  have hn : (rowsV cs vs).length = cs.length := by simp [rowsV, hl1]
  have hm : (nestL irs cs ins).length = cs.length := by simp [nestL, hl2]
  simp only [Rel]
  rcases e3.2 with ⟨e, hz⟩ | ⟨g, cap, cur, e, _, hgb, hnc, _⟩
  · exact ⟨none, 0, by rw [e, hm, ← hn, hz], by omega, .inl (List.eq_nil_of_length_eq_zero (by omega))⟩
  · refine ⟨_, cap, by rw [hm, ← hn]; exact e, by omega, .inr ⟨g, 0, rfl, (fun h => h), (Array.getElem?_eq_some_iff.1 hgb).1, ?_⟩⟩
    refine relRows_of_at _ 0 (fun r hr => ?_) (fun i r hir => ?_)
    · obtain ⟨i, hi⟩ := List.getElem?_of_mem hr
      have hic : i < cs.length := by have := (List.getElem?_eq_some_iff.1 hi).1; omega
      have e5 : (rowsV cs vs)[i]? = some (cs[i] ++ [.v (vs[i]'(by omega))]) := by
        simp only [rowsV, List.getElem?_zipWith, List.getElem?_eq_getElem hic, List.getElem?_eq_getElem (show i < vs.length by omega)]
      have := e2 _ (List.mem_of_getElem? e5)
      simp only [nestL, List.getElem?_zipWith, List.getElem?_eq_getElem hic, List.getElem?_eq_getElem (show i < ins.length by omega), Option.some.injEq] at hi
      subst hi
      simpa using this
    · have hic : i < cs.length := by have := (List.getElem?_eq_some_iff.1 hir).1; omega
      have e5 : (rowsV cs vs)[i]? = some (cs[i] ++ [.v (vs[i]'(by omega))]) := by
        simp only [rowsV, List.getElem?_zipWith, List.getElem?_eq_getElem hic, List.getElem?_eq_getElem (show i < vs.length by omega)]
      have hrow := h0.row e5 (b := g) (by rw [e]; rfl)
      simp only [nestL, List.getElem?_zipWith, List.getElem?_eq_getElem hic, List.getElem?_eq_getElem (show i < ins.length by omega), Option.some.injEq] at hir
      subst hir
      have hrow' := RelAt.mono (S' := fun _ => False) (S := S) (w := w) (w' := w) ⟨Nat.le_refl _, fun _ _ _ => rfl⟩ (fun _ _ h => h.elim) rfl _ _ hrow
      rw [relAt_append] at hrow' ⊢
      rw [show 0 + i * rs = i * rs by omega]
      refine ⟨hrow'.1, ?_⟩
      obtain ⟨⟨u, hu1, hu2⟩, _⟩ := hrow'.2
      refine ⟨⟨u, hu1, ?_⟩, trivial⟩
      simp only [Rel] at hu2; subst hu2
      have e6 : (poolL vs ins)[i]? = some (vs[i]'(by omega), some (ins[i]'(by omega))) := by
        simp only [poolL, List.getElem?_zipWith, List.getElem?_eq_getElem (show i < vs.length by omega), List.getElem?_eq_getElem (show i < ins.length by omega)]
      obtain ⟨G, hG⟩ := PoolR.at _ _ i _ _ h2 e6
      exact vec_viewR hG
/-- Rows that each bear a slice of their own in the last place. -/
def nestC (ty rs ity irs : Nat) (cs : List (List PV)) (ins : List (List (List PV))) (V : List (List PV)) (hV : nestL irs cs ins = V) : Cust where
  R := fun S w hd F => ∃ vs F1 F2, vs.length = cs.length ∧ ins.length = cs.length ∧ RRes (fun _ => hd) S w hd F1 (.vec ty rs (rowsV cs vs)) ∧ PoolR ity irs S w (poolL vs ins) F2 ∧ F = F1 ++ F2 ∧ ∀ k ∈ F1, k ∉ F2
  view := some (.sl rs V)
  mono := by
    intro S S' w w' hd F hw hS hF h
    obtain ⟨vs, F1, F2, h1, h2, h3, h4, h5, h6⟩ := h
    exact ⟨vs, F1, F2, h1, h2, RRes.mono hw hS (fun k hk => hF k (by rw [h5]; simp [hk])) (.vec ty rs (rowsV cs vs)) (fun _ _ => rfl) h3, PoolR.mono hw hS _ _ (fun k hk => hF k (by rw [h5]; simp [hk])) h4, h5, h6⟩
  shape := fun ⟨_, _, _, _, _, h3, _⟩ => hd_shape h3
  ok := fun h ⟨vs, F1, F2, h1, h2, h3, h4, _, _⟩ => by cases h; rw [← hV]; exact nest_view h1 h2 h3 h4
end

section
variable {P : Program} {fr : Fr} {st : St}
/-- The same world, seen otherwise. -/
theorem RepE.re {η η' : Nat → Value} {φ φ' : Nat → List Nat} {a : Act} {w : World} (hr : RepE fr η φ st a w) {st' : St}
    (hsub : ∀ id r k, get st'.hp id = some r → k ∈ φ' id → SOf φ st.hp k)
    (hslots : ∀ i av, get st'.tm i = some av → ∃ u, a.tmps[i]? = some u ∧ ARel η' (SOf φ' st'.hp) w av u)
    (hres : ∀ id r, get st'.hp id = some r → RRes η' (SOf φ' st'.hp) w (η' id) (φ' id) r)
    (hdisj : ∀ id id' r r' k, get st'.hp id = some r → get st'.hp id' = some r' → k ∈ φ' id → k ∈ φ' id' → id = id')
    (hpin : ∀ i v, get fr.pin i = some v → η' i = η i) : RepE fr η' φ' st' a w := by
  refine ⟨hr.defers, hr.size, hslots, hres, hdisj, ?_, ?_, hr.keep, fun i v hi => (hpin i v hi).trans (hr.pin i v hi)⟩
  · intro id r k h1 h2
    obtain ⟨i, q, h3, h4⟩ := hsub id r k h1 h2
    exact hr.low i q k h3 h4
  · intro id r k h1 h2
    obtain ⟨i, q, h3, h4⟩ := hsub id r k h1 h2
    exact hr.lt i q k h3 h4

theorem RRes.handle {η : Nat → Value} {S : Nat → Prop} {w : World} {hd : Value} {F : List Nat} {ty rs : Nat} {rows : List (List PV)} (h : RRes η S w hd F (.vec ty rs rows)) (η' : Nat → Value) : RRes η' S w hd F (.vec ty rs rows) := h

/-- A slice of one's own is laid by, with the value that is its handle. -/
theorem RepE.poolAdd {η : Nat → Value} {φ : Nat → List Nat} {a : Act} {w : World} (hr : RepE fr η φ st a w) (id1 id2 : Nat) {ty rs : Nat} {rows : List (List PV)} {l : List (Value × Option (List (List PV)))}
    (hg1 : get st.hp id1 = some (.vec ty rs rows)) (hg2 : get st.hp id2 = some (.cust (poolC ty rs l))) (hne : id1 ≠ id2) :
    RepE fr η (upd φ id2 (φ id2 ++ φ id1)) ⟨substT id1 (.v (η id1)) st.tm, setR id2 (.cust (poolC ty rs (l ++ [(η id1, some rows)]))) (substH id1 (.v (η id1)) st.hp)⟩ a w := by
  have hg2' : get (substH id1 (.v (η id1)) st.hp) id2 = some (.cust (poolC ty rs l)) := by rw [get_substH, if_neg (fun e => hne e.symm), hg2]; rfl
  have hget : ∀ i r, get (setR id2 (.cust (poolC ty rs (l ++ [(η id1, some rows)]))) (substH id1 (.v (η id1)) st.hp)) i = some r →
      (i = id2 ∧ r = .cust (poolC ty rs (l ++ [(η id1, some rows)]))) ∨ (i ≠ id2 ∧ i ≠ id1 ∧ ∃ r0, get st.hp i = some r0 ∧ r = r0.subst id1 (.v (η id1))) := by
    intro i r h
    rw [get_setR id2 _ _ _ hg2'] at h
    by_cases e : i = id2
    · rw [if_pos e] at h; exact .inl ⟨e, (Option.some.inj h).symm⟩
    · rw [if_neg e, get_substH] at h
      by_cases e1 : i = id1
      · rw [if_pos e1] at h; cases h
      · rw [if_neg e1] at h
        obtain ⟨r0, h1, rfl⟩ := Option.map_eq_some_iff.1 h
        exact .inr ⟨e, e1, r0, h1, rfl⟩
  have hS : ∀ k, SOf (upd φ id2 (φ id2 ++ φ id1)) (setR id2 (.cust (poolC ty rs (l ++ [(η id1, some rows)]))) (substH id1 (.v (η id1)) st.hp)) k → SOf φ st.hp k := by
    rintro k ⟨i, r, h1, h2⟩
    rcases hget i r h1 with ⟨rfl, rfl⟩ | ⟨e, _, r0, h3, _⟩
    · rw [upd_self] at h2
      rcases List.mem_append.1 h2 with h2 | h2
      · exact ⟨_, _, hg2, h2⟩
      · exact ⟨_, _, hg1, h2⟩
    · rw [upd_ne _ _ e] at h2; exact ⟨i, r0, h3, h2⟩
  have hw : ∀ {S}, Same S w w := ⟨Nat.le_refl _, fun _ _ _ => rfl⟩
  have hx : Rel (SOf (upd φ id2 (φ id2 ++ φ id1)) (setR id2 (.cust (poolC ty rs (l ++ [(η id1, some rows)]))) (substH id1 (.v (η id1)) st.hp))) w (.v (η id1)) (η id1) := by simp [Rel]
  refine hr.re (fun id r k h1 h2 => hS k ⟨id, r, h1, h2⟩) ?_ ?_ ?_ (fun _ _ _ => rfl)
  · intro i av h
    simp only [get_substT] at h
    obtain ⟨a0, h1, rfl⟩ := Option.map_eq_some_iff.1 h
    obtain ⟨u, h2, h3⟩ := hr.slots i a0 h1
    exact ⟨u, h2, ARel.subst hS hx a0 u h3⟩
  · intro i r h
    rcases hget i r h with ⟨rfl, rfl⟩ | ⟨e, _, r0, h3, rfl⟩
    · rw [upd_self]
      obtain ⟨h4, h5⟩ := hr.res _ _ hg2
      refine ⟨h4, PoolR.mono hw (fun k _ h => hS k h) _ _ (fun _ _ => rfl) (PoolR.add l _ _ rows _ h5 (fun k hk hm => hne (hr.disj _ _ _ _ k hg1 hg2 hk hm)) (hr.res _ _ hg1))⟩
    · rw [upd_ne _ _ e]
      have hres := hr.res i r0 h3
      cases r0 with
      | box ty cs =>
        obtain ⟨b, arr, e1, e2, e3, e4⟩ := hres
        exact ⟨b, arr, e1, e2, e3, ARelL.subst hS hx cs _ e4⟩
      | vec ty rs rows => exact RRes.mono hw (fun k _ h => hS k h) (fun _ _ => rfl) (.vec ty rs rows) (fun _ _ => rfl) hres
      | cust C => exact RRes.mono hw (fun k _ h => hS k h) (fun _ _ => rfl) (.cust C) (fun _ _ => rfl) hres
  · intro i j r r' k h1 h2 h3 h4
    rcases hget i r h1 with ⟨rfl, rfl⟩ | ⟨e, e', r0, f3, _⟩
    · rw [upd_self] at h3
      rcases hget j r' h2 with ⟨rfl, rfl⟩ | ⟨e2, e2', r2, f4, _⟩
      · rfl
      · rw [upd_ne _ _ e2] at h4
        rcases List.mem_append.1 h3 with h3 | h3
        · exact absurd (hr.disj _ _ _ _ k f4 hg2 h4 h3) e2
        · exact absurd (hr.disj _ _ _ _ k f4 hg1 h4 h3) e2'
    · rw [upd_ne _ _ e] at h3
      rcases hget j r' h2 with ⟨rfl, rfl⟩ | ⟨e2, e2', r2, f4, _⟩
      · rw [upd_self] at h4
        rcases List.mem_append.1 h4 with h4 | h4
        · exact absurd (hr.disj _ _ _ _ k f3 hg2 h3 h4) e
        · exact absurd (hr.disj _ _ _ _ k f3 hg1 h3 h4) e'
      · rw [upd_ne _ _ e2] at h4
        exact hr.disj _ _ _ _ k f3 f4 h3 h4

/-- The rows and what was laid by become one thing. -/
theorem RepE.nestJoin {η : Nat → Value} {φ : Nat → List Nat} {a : Act} {w : World} (hr : RepE fr η φ st a w) (id1 id2 : Nat) {ty rs ity irs : Nat} {rows : List (List PV)} {l : List (Value × Option (List (List PV)))}
    {cs : List (List PV)} {ins : List (List (List PV))} {V : List (List PV)} {hV : nestL irs cs ins = V} {vs : List Value} (hg1 : get st.hp id1 = some (.vec ty rs rows)) (hg2 : get st.hp id2 = some (.cust (poolC ity irs l))) (hne : id1 ≠ id2)
    (h1 : rows = rowsV cs vs) (h2 : l = poolL vs ins) (hl1 : vs.length = cs.length) (hl2 : ins.length = cs.length) :
    RepE fr η (upd φ id1 (φ id1 ++ φ id2)) ⟨st.tm, remH [id2] (setR id1 (.cust (nestC ty rs ity irs cs ins V hV)) st.hp)⟩ a w := by
  have hget : ∀ i r, get (remH [id2] (setR id1 (.cust (nestC ty rs ity irs cs ins V hV)) st.hp)) i = some r → (i = id1 ∧ r = .cust (nestC ty rs ity irs cs ins V hV)) ∨ (i ≠ id1 ∧ i ≠ id2 ∧ get st.hp i = some r) := by
    intro i r h
    rw [get_remH] at h
    by_cases e : i ∈ [id2]
    · rw [if_pos e] at h; cases h
    · rw [if_neg e, get_setR id1 _ _ _ hg1] at h
      by_cases e1 : i = id1
      · rw [if_pos e1] at h; exact .inl ⟨e1, (Option.some.inj h).symm⟩
      · rw [if_neg e1] at h; exact .inr ⟨e1, by simpa using e, h⟩
  have hS : ∀ k, SOf (upd φ id1 (φ id1 ++ φ id2)) (remH [id2] (setR id1 (.cust (nestC ty rs ity irs cs ins V hV)) st.hp)) k → SOf φ st.hp k := by
    rintro k ⟨i, r, h1, h2⟩
    rcases hget i r h1 with ⟨rfl, rfl⟩ | ⟨e, _, h3⟩
    · rw [upd_self] at h2
      rcases List.mem_append.1 h2 with h2 | h2
      · exact ⟨_, _, hg1, h2⟩
      · exact ⟨_, _, hg2, h2⟩
    · rw [upd_ne _ _ e] at h2; exact ⟨i, r, h3, h2⟩
  have hw : ∀ {S}, Same S w w := ⟨Nat.le_refl _, fun _ _ _ => rfl⟩
  refine hr.re (fun id r k h1 h2 => hS k ⟨id, r, h1, h2⟩) ?_ ?_ ?_ (fun _ _ _ => rfl)
  · intro i av h
    obtain ⟨u, h2, h3⟩ := hr.slots i av h
    exact ⟨u, h2, ARel.mono hw (fun k _ h => hS k h) av u (fun _ _ => rfl) h3⟩
  · intro i r h
    rcases hget i r h with ⟨rfl, rfl⟩ | ⟨e, _, h3⟩
    · rw [upd_self]
      obtain ⟨_, h5⟩ := hr.res _ _ hg2
      have h6 := hr.res _ _ hg1
      subst h1 h2
      refine ⟨vs, φ i, φ id2, hl1, hl2, RRes.mono hw (fun k _ h => hS k h) (fun _ _ => rfl) (.vec ty rs (rowsV cs vs)) (fun _ _ => rfl) (RRes.handle h6 _), PoolR.mono hw (fun k _ h => hS k h) _ _ (fun _ _ => rfl) h5, rfl, fun k hk hm => hne (hr.disj _ _ _ _ k hg1 hg2 hk hm)⟩
    · rw [upd_ne _ _ e]
      exact RRes.mono hw (fun k _ h => hS k h) (fun _ _ => rfl) r (fun _ _ => rfl) (hr.res i r h3)
  · intro i j r r' k h1 h2 h3 h4
    rcases hget i r h1 with ⟨rfl, rfl⟩ | ⟨e, e', f3⟩
    · rw [upd_self] at h3
      rcases hget j r' h2 with ⟨rfl, rfl⟩ | ⟨e2, e2', f4⟩
      · rfl
      · rw [upd_ne _ _ e2] at h4
        rcases List.mem_append.1 h3 with h3 | h3
        · exact absurd (hr.disj _ _ _ _ k f4 hg1 h4 h3) e2
        · exact absurd (hr.disj _ _ _ _ k f4 hg2 h4 h3) e2'
    · rw [upd_ne _ _ e] at h3
      rcases hget j r' h2 with ⟨rfl, rfl⟩ | ⟨e2, e2', f4⟩
      · rw [upd_self] at h4
        rcases List.mem_append.1 h4 with h4 | h4
        · exact absurd (hr.disj _ _ _ _ k f3 hg1 h3 h4) e
        · exact absurd (hr.disj _ _ _ _ k f3 hg2 h3 h4) e'
      · rw [upd_ne _ _ e2] at h4
        exact hr.disj _ _ _ _ k f3 f4 h3 h4

/-- The other way. -/
theorem RepE.nestSplit {η : Nat → Value} {φ : Nat → List Nat} {a : Act} {w : World} (hr : RepE fr η φ st a w) (id1 id2 : Nat) {ty rs ity irs : Nat} {cs : List (List PV)} {ins : List (List (List PV))} {V : List (List PV)} {hV : nestL irs cs ins = V}
    (hg1 : get st.hp id1 = some (.cust (nestC ty rs ity irs cs ins V hV))) (hf : st.fresh id2 = true) (hpin : get fr.pin id2 = none) :
    ∃ vs : List Value, vs.length = cs.length ∧ ins.length = cs.length ∧ ∃ η' φ', RepE fr η' φ' ⟨st.tm, (id2, .cust (poolC ity irs (poolL vs ins))) :: setR id1 (.vec ty rs (rowsV cs vs)) st.hp⟩ a w := by
  obtain ⟨vs, F1, F2, hl1, hl2, h3, h4, h5, h6⟩ := hr.res _ _ hg1
  refine ⟨vs, hl1, hl2, upd η id2 (.pointer none), upd (upd φ id1 F1) id2 F2, ?_⟩
  obtain ⟨hft, hfh⟩ := fresh_parts hf
  have hfT := freshT_spec hft
  obtain ⟨hno, hfH⟩ := freshH_spec hfh
  have hne : id1 ≠ id2 := fun e => by subst e; rw [hno] at hg1; cases hg1
  have hget : ∀ i r, get ((id2, .cust (poolC ity irs (poolL vs ins))) :: setR id1 (.vec ty rs (rowsV cs vs)) st.hp) i = some r →
      (i = id2 ∧ r = .cust (poolC ity irs (poolL vs ins))) ∨ (i = id1 ∧ r = .vec ty rs (rowsV cs vs)) ∨ (i ≠ id1 ∧ i ≠ id2 ∧ get st.hp i = some r) := by
    intro i r h
    rw [get_cons] at h
    by_cases e : id2 = i
    · rw [if_pos e] at h; exact .inl ⟨e.symm, (Option.some.inj h).symm⟩
    · rw [if_neg e, get_setR id1 _ _ _ hg1] at h
      by_cases e1 : i = id1
      · rw [if_pos e1] at h; exact .inr (.inl ⟨e1, (Option.some.inj h).symm⟩)
      · rw [if_neg e1] at h; exact .inr (.inr ⟨e1, fun h => e h.symm, h⟩)
  have hφ1 : upd (upd φ id1 F1) id2 F2 id1 = F1 := by rw [upd_ne _ _ hne, upd_self]
  have hφ2 : upd (upd φ id1 F1) id2 F2 id2 = F2 := upd_self _ _ _
  have hφ : ∀ i, i ≠ id1 → i ≠ id2 → upd (upd φ id1 F1) id2 F2 i = φ i := fun i h1 h2 => by rw [upd_ne _ _ h2, upd_ne _ _ h1]
  have hin1 : ∀ k ∈ F1, k ∈ φ id1 := fun k hk => by rw [h5]; simp [hk]
  have hin2 : ∀ k ∈ F2, k ∈ φ id1 := fun k hk => by rw [h5]; simp [hk]
  have hS : ∀ k, SOf (upd (upd φ id1 F1) id2 F2) ((id2, .cust (poolC ity irs (poolL vs ins))) :: setR id1 (.vec ty rs (rowsV cs vs)) st.hp) k → SOf φ st.hp k := by
    rintro k ⟨i, r, h1, h2⟩
    rcases hget i r h1 with ⟨rfl, rfl⟩ | ⟨rfl, rfl⟩ | ⟨e, e', h3⟩
    · rw [hφ2] at h2; exact ⟨_, _, hg1, hin2 k h2⟩
    · rw [hφ1] at h2; exact ⟨_, _, hg1, hin1 k h2⟩
    · rw [hφ i e e'] at h2; exact ⟨i, r, h3, h2⟩
  have hw : ∀ {S}, Same S w w := ⟨Nat.le_refl _, fun _ _ _ => rfl⟩
  refine hr.re (fun id r k h1 h2 => hS k ⟨id, r, h1, h2⟩) ?_ ?_ ?_ (fun i v hi => upd_ne _ _ (fun e => by subst e; rw [hpin] at hi; cases hi))
  · intro i av h
    obtain ⟨u, h2, h3⟩ := hr.slots i av h
    exact ⟨u, h2, ARel.mono hw (fun k _ h => hS k h) av u (fun j hj => upd_ne _ _ (fun e => by subst e; rw [hfT i av h] at hj; cases hj)) h3⟩
  · intro i r h
    rcases hget i r h with ⟨rfl, rfl⟩ | ⟨rfl, rfl⟩ | ⟨e, e', h3'⟩
    · rw [hφ2, upd_self]
      exact ⟨rfl, PoolR.mono hw (fun k _ h => hS k h) _ _ (fun _ _ => rfl) h4⟩
    · rw [hφ1, upd_ne _ _ hne]
      exact RRes.mono hw (fun k _ h => hS k h) (fun _ _ => rfl) (.vec ty rs (rowsV cs vs)) (fun _ _ => rfl) (RRes.handle h3 _)
    · rw [hφ i e e', upd_ne _ _ e']
      exact RRes.mono hw (fun k _ h => hS k h) (fun _ _ => rfl) r (fun j hj => upd_ne _ _ (fun e2 => by subst e2; rw [hfH i r h3'] at hj; cases hj)) (hr.res i r h3')
  · intro i j r r' k h1 h2 f3 f4
    rcases hget i r h1 with ⟨rfl, rfl⟩ | ⟨rfl, rfl⟩ | ⟨e, e', g3⟩
    · rw [hφ2] at f3
      rcases hget j r' h2 with ⟨rfl, rfl⟩ | ⟨rfl, rfl⟩ | ⟨e2, e2', g4⟩
      · rfl
      · rw [hφ1] at f4; exact absurd f3 (h6 k f4)
      · rw [hφ j e2 e2'] at f4; exact absurd (hr.disj _ _ _ _ k g4 hg1 f4 (hin2 k f3)) e2
    · rw [hφ1] at f3
      rcases hget j r' h2 with ⟨rfl, rfl⟩ | ⟨rfl, rfl⟩ | ⟨e2, e2', g4⟩
      · rw [hφ2] at f4; exact absurd f4 (h6 k f3)
      · rfl
      · rw [hφ j e2 e2'] at f4; exact absurd (hr.disj _ _ _ _ k g4 hg1 f4 (hin1 k f3)) e2
    · rw [hφ i e e'] at f3
      rcases hget j r' h2 with ⟨rfl, rfl⟩ | ⟨rfl, rfl⟩ | ⟨e2, e2', g4⟩
      · rw [hφ2] at f4; exact absurd (hr.disj _ _ _ _ k g3 hg1 f3 (hin2 k f4)) e
      · rw [hφ1] at f4; exact absurd (hr.disj _ _ _ _ k g3 hg1 f3 (hin1 k f4)) e
      · rw [hφ j e2 e2'] at f4; exact hr.disj _ _ _ _ k g3 g4 f3 f4

/-- One of what was laid by is taken. -/
theorem RepE.poolTake {η : Nat → Value} {φ : Nat → List Nat} {a : Act} {w : World} (hr : RepE fr η φ st a w) (d id2 id3 : Nat) {ity irs : Nat} {l : List (Value × Option (List (List PV)))} {j : Nat} {v : Value} {rows : List (List PV)}
    (hd : get st.tm d = some (.p (.v v))) (hg2 : get st.hp id2 = some (.cust (poolC ity irs l))) (hj : l[j]? = some (v, some rows)) (hf : st.fresh id3 = true) (hpin : get fr.pin id3 = none) :
    ∃ η' φ', RepE fr η' φ' ⟨(d, .h id3) :: st.tm, (id3, .cust (vecAt v ity irs rows)) :: setR id2 (.cust (poolC ity irs (l.set j (v, none)))) st.hp⟩ a w := by
  obtain ⟨hp1, hp2⟩ := hr.res _ _ hg2
  obtain ⟨F1, F2, h3, h4, h5, h6⟩ := PoolR.take l _ j v rows hp2 hj
  refine ⟨upd η id3 v, upd (upd φ id2 F2) id3 F1, ?_⟩
  obtain ⟨hft, hfh⟩ := fresh_parts hf
  have hfT := freshT_spec hft
  obtain ⟨hno, hfH⟩ := freshH_spec hfh
  have hne : id2 ≠ id3 := fun e => by subst e; rw [hno] at hg2; cases hg2
  have hget : ∀ i r, get ((id3, .cust (vecAt v ity irs rows)) :: setR id2 (.cust (poolC ity irs (l.set j (v, none)))) st.hp) i = some r →
      (i = id3 ∧ r = .cust (vecAt v ity irs rows)) ∨ (i = id2 ∧ r = .cust (poolC ity irs (l.set j (v, none)))) ∨ (i ≠ id2 ∧ i ≠ id3 ∧ get st.hp i = some r) := by
    intro i r h
    rw [get_cons] at h
    by_cases e : id3 = i
    · rw [if_pos e] at h; exact .inl ⟨e.symm, (Option.some.inj h).symm⟩
    · rw [if_neg e, get_setR id2 _ _ _ hg2] at h
      by_cases e1 : i = id2
      · rw [if_pos e1] at h; exact .inr (.inl ⟨e1, (Option.some.inj h).symm⟩)
      · rw [if_neg e1] at h; exact .inr (.inr ⟨e1, fun h => e h.symm, h⟩)
  have hφ1 : upd (upd φ id2 F2) id3 F1 id2 = F2 := by rw [upd_ne _ _ hne, upd_self]
  have hφ2 : upd (upd φ id2 F2) id3 F1 id3 = F1 := upd_self _ _ _
  have hφ : ∀ i, i ≠ id2 → i ≠ id3 → upd (upd φ id2 F2) id3 F1 i = φ i := fun i h1 h2 => by rw [upd_ne _ _ h2, upd_ne _ _ h1]
  have hin1 : ∀ k ∈ F1, k ∈ φ id2 := fun k hk => (h5 k).2 (.inl hk)
  have hin2 : ∀ k ∈ F2, k ∈ φ id2 := fun k hk => (h5 k).2 (.inr hk)
  have hS : ∀ k, SOf (upd (upd φ id2 F2) id3 F1) ((id3, .cust (vecAt v ity irs rows)) :: setR id2 (.cust (poolC ity irs (l.set j (v, none)))) st.hp) k → SOf φ st.hp k := by
    rintro k ⟨i, r, h1, h2⟩
    rcases hget i r h1 with ⟨rfl, rfl⟩ | ⟨rfl, rfl⟩ | ⟨e, e', h3⟩
    · rw [hφ2] at h2; exact ⟨_, _, hg2, hin1 k h2⟩
    · rw [hφ1] at h2; exact ⟨_, _, hg2, hin2 k h2⟩
    · rw [hφ i e e'] at h2; exact ⟨i, r, h3, h2⟩
  have hw : ∀ {S}, Same S w w := ⟨Nat.le_refl _, fun _ _ _ => rfl⟩
  refine hr.re (fun id r k h1 h2 => hS k ⟨id, r, h1, h2⟩) ?_ ?_ ?_ (fun i v hi => upd_ne _ _ (fun e => by subst e; rw [hpin] at hi; cases hi))
  · intro i av h
    simp only [get_cons] at h
    by_cases e : d = i
    · subst e
      rw [if_pos rfl] at h
      obtain rfl := Option.some.inj h
      obtain ⟨u, h2, h3⟩ := hr.slots _ _ hd
      simp only [ARel, Rel] at h3
      exact ⟨u, h2, by simp only [ARel]; rw [upd_self, h3]⟩
    · rw [if_neg e] at h
      obtain ⟨u, h2, h3⟩ := hr.slots i av h
      exact ⟨u, h2, ARel.mono hw (fun k _ h => hS k h) av u (fun j hj => upd_ne _ _ (fun e => by subst e; rw [hfT i av h] at hj; cases hj)) h3⟩
  · intro i r h
    rcases hget i r h with ⟨rfl, rfl⟩ | ⟨rfl, rfl⟩ | ⟨e, e', h3'⟩
    · rw [hφ2, upd_self]
      exact ⟨rfl, RRes.mono hw (fun k _ h => hS k h) (fun _ _ => rfl) (.vec ity irs rows) (fun _ _ => rfl) h3⟩
    · rw [hφ1, upd_ne _ _ hne]
      exact ⟨hp1, PoolR.mono hw (fun k _ h => hS k h) _ _ (fun _ _ => rfl) h4⟩
    · rw [hφ i e e', upd_ne _ _ e']
      exact RRes.mono hw (fun k _ h => hS k h) (fun _ _ => rfl) r (fun j hj => upd_ne _ _ (fun e2 => by subst e2; rw [hfH i r h3'] at hj; cases hj)) (hr.res i r h3')
  · intro i j r r' k h1 h2 f3 f4
    rcases hget i r h1 with ⟨rfl, rfl⟩ | ⟨rfl, rfl⟩ | ⟨e, e', g3⟩
    · rw [hφ2] at f3
      rcases hget j r' h2 with ⟨rfl, rfl⟩ | ⟨rfl, rfl⟩ | ⟨e2, e2', g4⟩
      · rfl
      · rw [hφ1] at f4; exact absurd f4 (h6 k f3)
      · rw [hφ j e2 e2'] at f4; exact absurd (hr.disj _ _ _ _ k g4 hg2 f4 (hin1 k f3)) e2
    · rw [hφ1] at f3
      rcases hget j r' h2 with ⟨rfl, rfl⟩ | ⟨rfl, rfl⟩ | ⟨e2, e2', g4⟩
      · rw [hφ2] at f4; exact absurd f3 (h6 k f4)
      · rfl
      · rw [hφ j e2 e2'] at f4; exact absurd (hr.disj _ _ _ _ k g4 hg2 f4 (hin2 k f3)) e2
    · rw [hφ i e e'] at f3
      rcases hget j r' h2 with ⟨rfl, rfl⟩ | ⟨rfl, rfl⟩ | ⟨e2, e2', g4⟩
      · rw [hφ2] at f4; exact absurd (hr.disj _ _ _ _ k g3 hg2 f3 (hin1 k f4)) e
      · rw [hφ1] at f4; exact absurd (hr.disj _ _ _ _ k g3 hg2 f3 (hin2 k f4)) e
      · rw [hφ j e2 e2'] at f4; exact hr.disj _ _ _ _ k g3 g4 f3 f4

/-- And given back. -/
theorem RepE.poolGive {η : Nat → Value} {φ : Nat → List Nat} {a : Act} {w : World} (hr : RepE fr η φ st a w) (id2 id3 : Nat) {ity irs : Nat} {l : List (Value × Option (List (List PV)))} {j : Nat} {v : Value} {rows : List (List PV)}
    (hg2 : get st.hp id2 = some (.cust (poolC ity irs l))) (hg3 : get st.hp id3 = some (.cust (vecAt v ity irs rows))) (hne : id2 ≠ id3) (hj : l[j]? = some (v, none)) :
    ∃ φ', RepE fr η φ' ⟨st.tm, remH [id3] (setR id2 (.cust (poolC ity irs (l.set j (v, some rows)))) st.hp)⟩ a w := by
  obtain ⟨hp1, hp2⟩ := hr.res _ _ hg2
  obtain ⟨hv1, hv2⟩ := hr.res _ _ hg3
  obtain ⟨F2, h4, h5⟩ := PoolR.give l _ j v rows _ hp2 hj hv2 (fun k hk hm => hne (hr.disj _ _ _ _ k hg2 hg3 hm hk))
  refine ⟨upd φ id2 F2, ?_⟩
  have hget : ∀ i r, get (remH [id3] (setR id2 (.cust (poolC ity irs (l.set j (v, some rows)))) st.hp)) i = some r → (i = id2 ∧ r = .cust (poolC ity irs (l.set j (v, some rows)))) ∨ (i ≠ id2 ∧ i ≠ id3 ∧ get st.hp i = some r) := by
    intro i r h
    rw [get_remH] at h
    by_cases e : i ∈ [id3]
    · rw [if_pos e] at h; cases h
    · rw [if_neg e, get_setR id2 _ _ _ hg2] at h
      by_cases e1 : i = id2
      · rw [if_pos e1] at h; exact .inl ⟨e1, (Option.some.inj h).symm⟩
      · rw [if_neg e1] at h; exact .inr ⟨e1, by simpa using e, h⟩
  have hS : ∀ k, SOf (upd φ id2 F2) (remH [id3] (setR id2 (.cust (poolC ity irs (l.set j (v, some rows)))) st.hp)) k → SOf φ st.hp k := by
    rintro k ⟨i, r, h1, h2⟩
    rcases hget i r h1 with ⟨rfl, rfl⟩ | ⟨e, _, h3⟩
    · rw [upd_self] at h2
      rcases (h5 k).1 h2 with h2 | h2
      · exact ⟨_, _, hg2, h2⟩
      · exact ⟨_, _, hg3, h2⟩
    · rw [upd_ne _ _ e] at h2; exact ⟨i, r, h3, h2⟩
  have hw : ∀ {S}, Same S w w := ⟨Nat.le_refl _, fun _ _ _ => rfl⟩
  refine hr.re (fun id r k h1 h2 => hS k ⟨id, r, h1, h2⟩) ?_ ?_ ?_ (fun _ _ _ => rfl)
  · intro i av h
    obtain ⟨u, h2, h3⟩ := hr.slots i av h
    exact ⟨u, h2, ARel.mono hw (fun k _ h => hS k h) av u (fun _ _ => rfl) h3⟩
  · intro i r h
    rcases hget i r h with ⟨rfl, rfl⟩ | ⟨e, _, h3⟩
    · rw [upd_self]
      exact ⟨hp1, PoolR.mono hw (fun k _ h => hS k h) _ _ (fun _ _ => rfl) h4⟩
    · rw [upd_ne _ _ e]
      exact RRes.mono hw (fun k _ h => hS k h) (fun _ _ => rfl) r (fun _ _ => rfl) (hr.res i r h3)
  · intro i j r r' k h1 h2 h3 h4
    rcases hget i r h1 with ⟨rfl, rfl⟩ | ⟨e, e', f3⟩
    · rw [upd_self] at h3
      rcases hget j r' h2 with ⟨rfl, rfl⟩ | ⟨e2, e2', f4⟩
      · rfl
      · rw [upd_ne _ _ e2] at h4
        rcases (h5 k).1 h3 with h3 | h3
        · exact absurd (hr.disj _ _ _ _ k f4 hg2 h4 h3) e2
        · exact absurd (hr.disj _ _ _ _ k f4 hg3 h4 h3) e2'
    · rw [upd_ne _ _ e] at h3
      rcases hget j r' h2 with ⟨rfl, rfl⟩ | ⟨e2, e2', f4⟩
      · rw [upd_self] at h4
        rcases (h5 k).1 h4 with h4 | h4
        · exact absurd (hr.disj _ _ _ _ k f3 hg2 h3 h4) e
        · exact absurd (hr.disj _ _ _ _ k f3 hg3 h3 h4) e'
      · rw [upd_ne _ _ e2] at h4
        exact hr.disj _ _ _ _ k f3 f4 h3 h4

variable {ops : Array Oper} {rest : List Oper} {k : List It}
theorem AC.poolNew (id ty rs : Nat) (hf : st.fresh id = true) (hk : AC P fr k ⟨st.tm, (id, .cust (poolC ty rs [])) :: st.hp⟩) (hpin : get fr.pin id = none := by rfl) : AC P fr k st :=
  fun a w ⟨_, _, hr⟩ => hk a w ⟨_, _, hr.add (Below.refl _ _) id hf (.cust (poolC ty rs [])) (.pointer none) [] (by simp) ⟨rfl, rfl⟩ hpin⟩
theorem AO.poolAdd (id1 id2 : Nat) {ty rs : Nat} {rows : List (List PV)} {l : List (Value × Option (List (List PV)))} (hg1 : get st.hp id1 = some (.vec ty rs rows)) (hg2 : get st.hp id2 = some (.cust (poolC ty rs l))) (hne : Nat.beq id1 id2 = false)
    (hk : ∀ a n c, AO P fr ops rest k false ⟨substT id1 (.v (.slice a n c)) st.tm, setR id2 (.cust (poolC ty rs (l ++ [(.slice a n c, some rows)]))) (substH id1 (.v (.slice a n c)) st.hp)⟩) : AO P fr ops rest k false st :=
  fun a w ⟨η, φ, hr⟩ => by
    have h := hr.poolAdd id1 id2 hg1 hg2 (fun e => by subst e; simp at hne)
    obtain ⟨xs, _, _, h3, _⟩ := hr.res id1 _ hg1
    rcases h3.2 with ⟨e, _⟩ | ⟨g, cap, cur, e, _⟩
    · rw [e] at h; exact hk _ _ _ a w ⟨_, _, h⟩
    · rw [e] at h; exact hk _ _ _ a w ⟨_, _, h⟩
theorem AC.nestJoin (id1 id2 : Nat) {ty rs ity irs : Nat} {rows : List (List PV)} {l : List (Value × Option (List (List PV)))} {cs : List (List PV)} {ins : List (List (List PV))} {V : List (List PV)} {hV : nestL irs cs ins = V} {vs : List Value}
    (hg1 : get st.hp id1 = some (.vec ty rs rows)) (hg2 : get st.hp id2 = some (.cust (poolC ity irs l))) (hne : Nat.beq id1 id2 = false)
    (h1 : rows = rowsV cs vs) (h2 : l = poolL vs ins) (hl1 : vs.length = cs.length) (hl2 : ins.length = cs.length)
    (hk : AC P fr k ⟨st.tm, remH [id2] (setR id1 (.cust (nestC ty rs ity irs cs ins V hV)) st.hp)⟩) : AC P fr k st :=
  fun a w ⟨_, _, hr⟩ => hk a w ⟨_, _, hr.nestJoin id1 id2 hg1 hg2 (fun e => by subst e; simp at hne) h1 h2 hl1 hl2⟩
theorem AC.nestSplit (id1 id2 : Nat) {ty rs ity irs : Nat} {cs : List (List PV)} {ins : List (List (List PV))} {V : List (List PV)} {hV : nestL irs cs ins = V} (hg1 : get st.hp id1 = some (.cust (nestC ty rs ity irs cs ins V hV))) (hf : st.fresh id2 = true)
    (hk : ∀ vs : List Value, vs.length = cs.length → ins.length = cs.length → AC P fr k ⟨st.tm, (id2, .cust (poolC ity irs (poolL vs ins))) :: setR id1 (.vec ty rs (rowsV cs vs)) st.hp⟩) (hpin : get fr.pin id2 = none := by rfl) : AC P fr k st :=
  fun a w ⟨_, _, hr⟩ => by
    obtain ⟨vs, h1, h2, η', φ', h3⟩ := hr.nestSplit id1 id2 hg1 hf hpin
    exact hk vs h1 h2 a w ⟨η', φ', h3⟩
theorem AO.poolTake (d id2 id3 : Nat) {ity irs : Nat} {l : List (Value × Option (List (List PV)))} {j : Nat} {v : Value} {rows : List (List PV)}
    (hd : get st.tm d = some (.p (.v v))) (hg2 : get st.hp id2 = some (.cust (poolC ity irs l))) (hj : l[j]? = some (v, some rows)) (hf : st.fresh id3 = true)
    (hk : AO P fr ops rest k false ⟨(d, .h id3) :: st.tm, (id3, .cust (vecAt v ity irs rows)) :: setR id2 (.cust (poolC ity irs (l.set j (v, none)))) st.hp⟩) (hpin : get fr.pin id3 = none := by rfl) : AO P fr ops rest k false st :=
  fun a w ⟨_, _, hr⟩ => by
    obtain ⟨η', φ', h3⟩ := hr.poolTake d id2 id3 hd hg2 hj hf hpin
    exact hk a w ⟨η', φ', h3⟩
theorem AO.poolGive (id2 id3 : Nat) {ity irs : Nat} {l : List (Value × Option (List (List PV)))} {j : Nat} {v : Value} {rows : List (List PV)}
    (hg2 : get st.hp id2 = some (.cust (poolC ity irs l))) (hg3 : get st.hp id3 = some (.cust (vecAt v ity irs rows))) (hne : Nat.beq id2 id3 = false) (hj : l[j]? = some (v, none))
    (hk : AO P fr ops rest k false ⟨st.tm, remH [id3] (setR id2 (.cust (poolC ity irs (l.set j (v, some rows)))) st.hp)⟩) : AO P fr ops rest k false st :=
  fun a w ⟨_, _, hr⟩ => by
    obtain ⟨φ', h3⟩ := hr.poolGive id2 id3 hg2 hg3 (fun e => by subst e; simp at hne) hj
    exact hk a w ⟨_, φ', h3⟩

/-- A contract on a slice of one's own, with the handle named. -/
theorem FnE.at {α : Type} {f : FuncId} {args : List AV} {ty rs : Nat} {rows : List (List PV)} {R : α → Prop} {r : α → AV} {rows' : α → List (List PV)} (hp : FnE P f args [(0, .vec ty rs rows)] [0] R r (fun x => [(0, .vec ty rs (rows' x))])) (v : Value) :
    FnE P f args [(0, .cust (vecAt v ty rs rows))] [0] R r (fun x => [(0, .cust (vecAt v ty rs (rows' x)))]) := by
  intro w0 F0 η φ w us hok hargs
  have hS : ∀ (φ : Nat → List Nat) (A B : Res) (C : Res), SOf φ [(900, C), (0, A)] = SOf φ [(900, C), (0, B)] := by
    intro φ A B C; funext k; apply propext
    simp only [SOf, get_cons]
    constructor
    · rintro ⟨i, r, h1, h2⟩
      by_cases e : 900 = i
      · exact ⟨i, C, by rw [if_pos e], h2⟩
      · by_cases e0 : 0 = i
        · exact ⟨i, B, by rw [if_neg e, if_pos e0], h2⟩
        · rw [if_neg e, if_neg e0] at h1; cases h1
    · rintro ⟨i, r, h1, h2⟩
      by_cases e : 900 = i
      · exact ⟨i, C, by rw [if_pos e], h2⟩
      · by_cases e0 : 0 = i
        · exact ⟨i, A, by rw [if_neg e, if_pos e0], h2⟩
        · rw [if_neg e, if_neg e0] at h1; cases h1
  have g0 : ∀ (A B C : Res) i r, get [(900, C), (0, A)] i = some r → (i = 900 ∧ r = C) ∨ (i = 0 ∧ r = A) := by
    intro A B C i r h
    simp only [get_cons] at h
    by_cases e : 900 = i
    · rw [if_pos e] at h; exact .inl ⟨e.symm, (Option.some.inj h).symm⟩
    · rw [if_neg e] at h
      by_cases e0 : 0 = i
      · rw [if_pos e0] at h; exact .inr ⟨e0.symm, (Option.some.inj h).symm⟩
      · rw [if_neg e0] at h; cases h
  have some0 : ∀ (A C : Res), get [(900, C), (0, A)] 0 = some A := fun A C => rfl
  have some9 : ∀ (A C : Res), get [(900, C), (0, A)] 900 = some C := fun A C => rfl
  have other : ∀ (A B C : Res) i r, get [(900, C), (0, A)] i = some r → ∃ r', get [(900, C), (0, B)] i = some r' := by
    intro A B C i r h
    rcases g0 A B C i r h with ⟨rfl, _⟩ | ⟨rfl, _⟩
    · exact ⟨_, some9 B C⟩
    · exact ⟨_, some0 B C⟩
  obtain ⟨hv1, hv2⟩ := hok.res 0 _ (some0 _ _)
  rw [hS φ _ (.vec ty rs rows)] at hargs
  refine (hp w0 F0 η φ w us ⟨?_, ?_, ?_⟩ hargs).mono ?_
  · intro id r h
    rcases g0 _ (.vec ty rs rows) _ id r h with ⟨rfl, rfl⟩ | ⟨rfl, rfl⟩
    · rw [hS φ _ (.cust (vecAt v ty rs rows))]; exact hok.res 900 _ (some9 _ _)
    · rw [hS φ _ (.cust (vecAt v ty rs rows)), hv1]; exact RRes.handle hv2 _
  · intro id id' r r' k h1 h2 h3 h4
    obtain ⟨_, h1'⟩ := other _ (.cust (vecAt v ty rs rows)) _ id r h1
    obtain ⟨_, h2'⟩ := other _ (.cust (vecAt v ty rs rows)) _ id' r' h2
    exact hok.disj id id' _ _ k h1' h2' h3 h4
  · intro id r k h1 h2
    obtain ⟨_, h1'⟩ := other _ (.cust (vecAt v ty rs rows)) _ id r h1
    exact hok.lt id _ k h1' h2
  · rintro e w' ⟨x, hR, u, η', φ', e1, hok', hrel, hkp, hblk, hkeep⟩
    refine ⟨x, hR, u, η', φ', e1, ⟨?_, ?_, ?_⟩, ?_, hkp, ?_, ?_⟩
    · intro id r h
      rcases g0 _ (.vec ty rs (rows' x)) _ id r h with ⟨rfl, rfl⟩ | ⟨rfl, rfl⟩
      · rw [hS φ' _ (.vec ty rs (rows' x))]; exact hok'.res 900 _ (some9 _ _)
      · rw [hS φ' _ (.vec ty rs (rows' x))]
        have h0 := hkp 0 (by simp)
        refine ⟨h0.trans hv1, ?_⟩
        have h5 := hok'.res 0 _ (some0 (.vec ty rs (rows' x)) _)
        rw [h0, hv1] at h5
        exact RRes.handle h5 _
    · intro id id' r r' k h1 h2 h3 h4
      obtain ⟨_, h1'⟩ := other _ (.vec ty rs (rows' x)) _ id r h1
      obtain ⟨_, h2'⟩ := other _ (.vec ty rs (rows' x)) _ id' r' h2
      exact hok'.disj id id' _ _ k h1' h2' h3 h4
    · intro id r k h1 h2
      obtain ⟨_, h1'⟩ := other _ (.vec ty rs (rows' x)) _ id r h1
      exact hok'.lt id _ k h1' h2
    · rw [hS φ' _ (.vec ty rs (rows' x))]; exact hrel
    · intro i r k h1 h2
      obtain ⟨_, h1'⟩ := other _ (.vec ty rs (rows' x)) _ i r h1
      rw [hS φ _ (.vec ty rs rows)]
      exact hblk i _ k h1' h2
    · rw [hS φ _ (.vec ty rs rows)]; exact hkeep
end
end Go.V
