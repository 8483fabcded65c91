/- The calculus' rules: a box of one's own that is only read from here on. -/
import Derived.Test.YtdpanmnnfamfmaaV21
set_option linter.all false
namespace Go.V
open Go Go.RowKit
section
variable {P : Program} {fr : Fr} {st : St} {ops : Array Oper} {rest : List Oper} {k : List It}
theorem RepE.freezeB {η : Nat → Value} {φ : Nat → List Nat} {a : Act} {w : World} (hr : RepE fr η φ st a w) (id : Nat) {ty : TypeId} {cs : List AV} {xs : List PV} (hg : get st.hp id = some (.box ty cs)) (hp : pvs cs = some xs) :
    RepE fr η φ ⟨substT id (.ptr xs) st.tm, substH id (.ptr xs) st.hp⟩ a w := by
  have hget : ∀ i r, get (substH id (.ptr xs) st.hp) i = some r → i ≠ id ∧ ∃ r0, get st.hp i = some r0 ∧ r = r0.subst id (.ptr xs) := by
    intro i r h
    rw [get_substH] at h
    split at h
    · cases h
    · next e => obtain ⟨r0, h1, rfl⟩ := Option.map_eq_some_iff.1 h; exact ⟨e, r0, h1, rfl⟩
  have hS : ∀ k, SOf φ (substH id (.ptr xs) st.hp) k → SOf φ st.hp k := by
    rintro k ⟨i, r, h1, h2⟩
    obtain ⟨_, r0, h3, _⟩ := hget i r h1
    exact ⟨i, r0, h3, h2⟩
  have hx : Rel (SOf φ (substH id (.ptr xs) st.hp)) w (.ptr xs) (η id) := by
    obtain ⟨blk, arr, e1, e2, e3, e4⟩ := hr.res id _ hg
    have h4 := pvs_rel cs xs _ hp e4
    simp only [Rel]
    refine ⟨blk, 0, e1, ?_, (Array.getElem?_eq_some_iff.1 e3).1, ?_⟩
    · rintro ⟨i, r, h1, h2⟩
      obtain ⟨hne, r0, h4, _⟩ := hget i r h1
      exact hne (hr.disj i id r0 _ blk h4 hg h2 (by rw [e2]; simp))
    · refine RelAt.mono (S := SOf φ st.hp) (w := w) ⟨Nat.le_refl _, fun _ _ _ => rfl⟩ (fun k _ h => hS k h) rfl 0 xs ?_
      refine relAt_of_relL xs 0 arr.toList (fun j u hj => ?_) h4
      rw [cell_of_row w blk (0 + j) arr ty (0, 0) e3]
      simpa using hj
  refine ⟨hr.defers, hr.size, ?_, ?_, ?_, ?_, ?_, hr.keep, hr.pin⟩
  · intro i av h
    rw [get_substT] at h
    obtain ⟨a0, h1, rfl⟩ := Option.map_eq_some_iff.1 h
    obtain ⟨u, h2, h3⟩ := hr.slots i a0 h1
    exact ⟨u, h2, ARel.subst hS hx a0 u h3⟩
  · intro i r h
    obtain ⟨hne, r0, h1, rfl⟩ := hget i r h
    have hres := hr.res i r0 h1
    cases r0 with
    | box ty cs =>
      obtain ⟨b, arr, e1, e2, e3, e4⟩ := hres
      exact ⟨b, arr, e1, e2, e3, ARelL.subst hS hx cs _ e4⟩
    | vec ty rs rows =>
      exact RRes.mono ⟨Nat.le_refl _, fun _ _ _ => rfl⟩ (fun k _ h => hS k h) (fun _ _ => rfl) (.vec ty rs rows) (fun _ _ => rfl) hres
    | cust C => exact RRes.mono ⟨Nat.le_refl _, fun _ _ _ => rfl⟩ (fun k _ h => hS k h) (fun _ _ => rfl) (.cust C) (fun _ _ => rfl) hres
  · intro i j r r' k h1 h2
    obtain ⟨_, r0, h3, _⟩ := hget i r h1
    obtain ⟨_, r1, h4, _⟩ := hget j r' h2
    exact hr.disj i j r0 r1 k h3 h4
  · intro i r k h1
    obtain ⟨_, r0, h3, _⟩ := hget i r h1
    exact hr.low i r0 k h3
  · intro i r k h1
    obtain ⟨_, r0, h3, _⟩ := hget i r h1
    exact hr.lt i r0 k h3
theorem AC.freezeB (id : Nat) {ty : TypeId} {cs : List AV} {xs : List PV} (hg : get st.hp id = some (.box ty cs)) (hp : pvs cs = some xs) (hk : AC P fr k ⟨substT id (.ptr xs) st.tm, substH id (.ptr xs) st.hp⟩) : AC P fr k st :=
  fun a w ⟨_, _, hr⟩ => hk a w ⟨_, _, hr.freezeB id hg hp⟩
theorem AO.freezeB (id : Nat) {ty : TypeId} {cs : List AV} {xs : List PV} (hg : get st.hp id = some (.box ty cs)) (hp : pvs cs = some xs) (hk : AO P fr ops rest k false ⟨substT id (.ptr xs) st.tm, substH id (.ptr xs) st.hp⟩) : AO P fr ops rest k false st :=
  fun a w ⟨_, _, hr⟩ => hk a w ⟨_, _, hr.freezeB id hg hp⟩
end
end Go.V
