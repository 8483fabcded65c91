/- The calculus' rules: contracts of functions that act on what one owns, or hand several new things back. -/
import Derived.Test.YtbbechcbdeknnaaV12
set_option linter.all false
namespace Go.V
open Go Go.RowKit

/-! Names turned. -/
mutual
def AV.rnm (ρ : Nat → Nat) : AV → AV
  | .h i => .h (ρ i)
  | .el i rs row off => .el (ρ i) rs row off
  | .agg cs => .agg (AV.rnmL ρ cs)
  | .tup cs => .tup (AV.rnmL ρ cs)
  | .clo f cs => .clo f (AV.rnmL ρ cs)
  | .p x => .p x
  | .junk => .junk
def AV.rnmL (ρ : Nat → Nat) : List AV → List AV
  | [] => []
  | c :: cs => c.rnm ρ :: AV.rnmL ρ cs
end
def Res.rnm (ρ : Nat → Nat) : Res → Res
  | .box ty cs => .box ty (AV.rnmL ρ cs)
  | .vec ty rs rows => .vec ty rs rows
  | .cust C => .cust C
/-- The name at a place of a list. -/
def rn : List Nat → Nat → Nat
  | [], _ => 0
  | j :: _, 0 => j
  | _ :: l, i + 1 => rn l i
def rnH (ρ : Nat → Nat) : List (Nat × Res) → List (Nat × Res)
  | [] => []
  | (i, r) :: l => (ρ i, r.rnm ρ) :: rnH ρ l

section
variable {η : Nat → Value} {S : Nat → Prop} {w : World} {ρ : Nat → Nat}
mutual
theorem ARel.rnm : ∀ (a : AV) (u : Value), ARel (fun i => η (ρ i)) S w a u ↔ ARel η S w (a.rnm ρ) u
  | .p x, u => by simp only [ARel, AV.rnm]
  | .h i, u => by simp only [ARel, AV.rnm]
  | .el i rs row off, u => by simp only [ARel, AV.rnm]
  | .agg cs, u => by
    simp only [ARel, AV.rnm]
    exact exists_congr fun us => and_congr_right fun _ => ARelL.rnm cs us.toList
  | .tup cs, u => by
    simp only [ARel, AV.rnm]
    exact exists_congr fun us => and_congr_right fun _ => ARelL.rnm cs us.toList
  | .clo f cs, u => by
    simp only [ARel, AV.rnm]
    exact exists_congr fun us => and_congr_right fun _ => ARelL.rnm cs us.toList
  | .junk, u => by simp only [ARel, AV.rnm]
theorem ARelL.rnm : ∀ (cs : List AV) (us : List Value), ARelL (fun i => η (ρ i)) S w cs us ↔ ARelL η S w (AV.rnmL ρ cs) us
  | [], us => by simp only [ARelL, AV.rnmL]
  | c :: cs, us => by
    simp only [ARelL, AV.rnmL]
    exact exists_congr fun u => exists_congr fun us' => and_congr_right fun _ => and_congr (ARel.rnm c u) (ARelL.rnm cs us')
end
theorem RRes.rnm {hd : Value} {F : List Nat} (r : Res) : RRes (fun i => η (ρ i)) S w hd F r ↔ RRes η S w hd F (r.rnm ρ) := by
  cases r with
  | box ty cs =>
    simp only [RRes, Res.rnm]
    exact exists_congr fun b => exists_congr fun arr => and_congr_right fun _ => and_congr_right fun _ => and_congr_right fun _ => ARelL.rnm cs arr.toList
  | vec ty rs rows => exact Iff.rfl
  | cust C => exact Iff.rfl
end

mutual
/-- All names are of a list. -/
def AV.inB (l : List Nat) : AV → Bool
  | .h i => l.contains i
  | .el i _ _ _ => l.contains i
  | .agg cs => AV.inBL l cs
  | .tup cs => AV.inBL l cs
  | .clo _ cs => AV.inBL l cs
  | .p _ => true
  | .junk => true
def AV.inBL (l : List Nat) : List AV → Bool
  | [] => true
  | c :: cs => c.inB l && AV.inBL l cs
end
def Res.inB (l : List Nat) : Res → Bool
  | .box _ cs => AV.inBL l cs
  | _ => true
def inBH (l : List Nat) : List (Nat × Res) → Bool
  | [] => true
  | (i, r) :: h => l.contains i && r.inB l && inBH l h
mutual
theorem AV.inB_spec {l : List Nat} {i : Nat} : ∀ a : AV, a.inB l = true → a.names i = true → i ∈ l
  | .h j, hb, hn => by simp only [AV.inB, AV.names] at hb hn; rw [Nat.eq_of_beq_eq_true hn] at hb; simpa using hb
  | .el j _ _ _, hb, hn => by simp only [AV.inB, AV.names] at hb hn; rw [Nat.eq_of_beq_eq_true hn] at hb; simpa using hb
  | .agg cs, hb, hn => AV.inBL_spec cs (by simpa only [AV.inB] using hb) (by simpa only [AV.names] using hn)
  | .tup cs, hb, hn => AV.inBL_spec cs (by simpa only [AV.inB] using hb) (by simpa only [AV.names] using hn)
  | .clo _ cs, hb, hn => AV.inBL_spec cs (by simpa only [AV.inB] using hb) (by simpa only [AV.names] using hn)
  | .p _, _, hn => by simp [AV.names] at hn
  | .junk, _, hn => by simp [AV.names] at hn
theorem AV.inBL_spec {l : List Nat} {i : Nat} : ∀ cs : List AV, AV.inBL l cs = true → AV.namesL i cs = true → i ∈ l
  | [], _, hn => by simp [AV.namesL] at hn
  | c :: cs, hb, hn => by
    simp only [AV.inBL, Bool.and_eq_true] at hb
    simp only [AV.namesL, Bool.or_eq_true] at hn
    rcases hn with hn | hn
    · exact AV.inB_spec c hb.1 hn
    · exact AV.inBL_spec cs hb.2 hn
end
theorem inBH_spec {l : List Nat} : ∀ {hp : List (Nat × Res)}, inBH l hp = true → ∀ i r, get hp i = some r → i ∈ l ∧ ∀ j, r.names j = true → j ∈ l
  | [], _, _, _, h => by cases h
  | (j, r0) :: hp, hb, i, r, h => by
    simp only [inBH, Bool.and_eq_true] at hb
    rw [get_cons] at h
    split at h
    · next e =>
      subst e; obtain rfl := Option.some.inj h
      refine ⟨by simpa using hb.1.1, fun k hk => ?_⟩
      cases r0 with
      | box ty cs => exact AV.inBL_spec cs hb.1.2 hk
      | vec => simp [Res.names] at hk
      | cust => simp [Res.names] at hk
    · exact inBH_spec hb.2 i r h

/-- A function that acts on things of one's own ('hi') and hands things back ('ho'), for some x of which R holds; 'kp': whose handles stay. -/
def FnX {α : Type} (P : Program) (f : FuncId) (args : List AV) (hi : List (Nat × Res)) (kp : List Nat) (R : α → Prop) (r : α → AV) (ho : α → List (Nat × Res)) : Prop :=
  ∀ η φ w (us : List Value), HpOk η φ hi w → ARelL η (SOf φ hi) w args us →
    Calls P f us.toArray w fun e w' => ∃ x, R x ∧ ∃ u η' φ', e = .returned u ∧ HpOk η' φ' (ho x) w' ∧ ARel η' (SOf φ' (ho x)) w' (r x) u ∧ (∀ i, i ∈ kp → η' i = η i) ∧
      (∀ i r k, get (ho x) i = some r → k ∈ φ' i → SOf φ hi k ∨ w.heap.size ≤ k) ∧ Keep (SOf φ hi) w w'

/-- The things that a call is handed, by their names here. -/
def HasH (hp : List (Nat × Res)) (ρ : Nat → Nat) : List (Nat × Res) → Prop
  | [] => True
  | (i, r) :: l => get hp (ρ i) = some (r.rnm ρ) ∧ HasH hp ρ l
theorem HasH.spec {hp : List (Nat × Res)} {ρ : Nat → Nat} : ∀ {l : List (Nat × Res)}, HasH hp ρ l → ∀ i r, get l i = some r → get hp (ρ i) = some (r.rnm ρ)
  | [], _, _, _, h => by cases h
  | (j, r0) :: l, hh, i, r, h => by
    rw [get_cons] at h
    split at h
    · next e => subst e; obtain rfl := Option.some.inj h; exact hh.1
    · exact hh.2.spec i r h

/-- What is passed, beside what the contract says. -/
inductive Pass (st : St) (ρ : Nat → Nat) (hi : List (Nat × Res)) : List AV → List AV → Prop
  | nil : Pass st ρ hi [] []
  | own {c : AV} {av : AV} {l l' : List AV} : c.rnm ρ = av → Pass st ρ hi l l' → Pass st ρ hi (c :: l) (av :: l')
  | view {x : PV} {av : AV} {l l' : List AV} : hi = [] → st.view av = some x → Pass st ρ hi l l' → Pass st ρ hi (.p x :: l) (av :: l')
  | vec {id : Nat} {ty : TypeId} {rs : Nat} {rows : List (List PV)} {l l' : List AV} : get st.hp id = some (.vec ty rs rows) → (hi.map fun p => ρ p.1).contains id = false → Pass st ρ hi l l' → Pass st ρ hi (.p (.sl rs rows) :: l) (.h id :: l')

theorem vec_viewS {fr : Fr} {st : St} {η : Nat → Value} {φ : Nat → List Nat} {a : Act} {w : World} (hr : RepE fr η φ st a w) {id : Nat} {ty : TypeId} {rs : Nat} {rows : List (List PV)} (hg : get st.hp id = some (.vec ty rs rows))
    {S : Nat → Prop} (hS : ∀ k, S k → SOf φ st.hp k) (hn : ∀ k, S k → k ∉ φ id) : Rel S w (.sl rs rows) (η id) := by
  have h := hr.res id _ hg
  obtain ⟨xs, h1, h2, h3, h4⟩ := h
  simp only [Rel]
  rcases h3.2 with ⟨e, hn0⟩ | ⟨g, cap, cur, e, _, hgb, hnc, _⟩
  · exact ⟨none, 0, by rw [e, hn0], by omega, .inl (List.eq_nil_of_length_eq_zero hn0)⟩
  · refine ⟨_, cap, e, hnc, .inr ⟨g, 0, rfl, fun hk => hn g hk (by rw [h4, e]; simp [Value.ownBlock]), (Array.getElem?_eq_some_iff.1 hgb).1, ?_⟩⟩
    refine RelRows.mono (S := SOf φ st.hp) (w := w) ⟨Nat.le_refl _, fun _ _ _ => rfl⟩ (fun k _ h => hS k h) rfl 0 rows (relRows_of_at rows 0 h2 (fun i r hir => ?_))
    have := (hr.res id _ hg).row hir (b := g) (by rw [e]; rfl)
    simpa using this

theorem Pass.rel {st : St} {ρ : Nat → Nat} {hi : List (Nat × Res)} {l l' : List AV} (hp : Pass st ρ hi l l') (hh : HasH st.hp ρ hi) {fr : Fr} {η : Nat → Value} {φ : Nat → List Nat} {a : Act} {w : World} (hr : RepE fr η φ st a w) :
    ∀ us, ARelL η (SOf φ st.hp) w l' us → ARelL (fun i => η (ρ i)) (SOf (fun i => φ (ρ i)) hi) w l us := by
  have hS : ∀ k, SOf (fun i => φ (ρ i)) hi k → SOf φ st.hp k := by
    rintro k ⟨i, r, hg, hm⟩; exact ⟨ρ i, _, hh.spec i r hg, hm⟩
  have hw : Same (SOf φ st.hp) w w := ⟨Nat.le_refl _, fun _ _ _ => rfl⟩
  induction hp with
  | nil => intro us h; simpa only [ARelL] using h
  | own e _ ih =>
    intro us h
    simp only [ARelL] at h ⊢
    obtain ⟨u, us', rfl, h2, h3⟩ := h
    refine ⟨u, us', rfl, ?_, ih _ h3⟩
    rw [← e] at h2
    exact (ARel.rnm _ _).2 (ARel.mono hw (fun k _ h => hS k h) _ _ (fun _ _ => rfl) h2)
  | view e hv _ ih =>
    intro us h
    simp only [ARelL] at h ⊢
    obtain ⟨u, us', rfl, h2, h3⟩ := h
    refine ⟨u, us', rfl, ?_, ih _ h3⟩
    simp only [ARel]
    refine Rel.mono (S := fun _ => False) ⟨Nat.le_refl _, fun _ _ _ => rfl⟩ (fun k _ h => ?_) _ _ (view_rel hv hr h2)
    obtain ⟨i, r, hg, _⟩ := h
    rw [e] at hg; cases hg
  | vec hg hc _ ih =>
    intro us h
    simp only [ARelL] at h ⊢
    obtain ⟨u, us', rfl, h2, h3⟩ := h
    refine ⟨u, us', rfl, ?_, ih _ h3⟩
    simp only [ARel] at h2 ⊢
    subst h2
    refine vec_viewS hr hg hS ?_
    rintro k ⟨i, r, hg', hm⟩ hk
    have hid := hr.disj _ _ _ _ k hg (hh.spec i r hg') hk hm
    have hmem : ∀ {hi : List (Nat × Res)}, get hi i = some r → ρ i ∈ hi.map fun p => ρ p.1 := by
      intro hi
      induction hi with
      | nil => intro h; cases h
      | cons p l ih2 =>
        intro h
        obtain ⟨j, r0⟩ := p
        rw [get_cons] at h
        split at h
        · next e => simp [e]
        · simp only [List.map_cons, List.mem_cons]; exact .inr (ih2 h)
    have : (hi.map fun p => ρ p.1).contains (ρ i) = true := by simpa using hmem hg'
    rw [← hid, hc] at this
    cases this

/-! The state behind a call. -/
def dropTs : List Nat → List (Nat × AV) → List (Nat × AV)
  | [], tm => tm
  | i :: l, tm => dropTs l (dropT i tm)
def dropHs : List Nat → List (Nat × Res) → List (Nat × Res)
  | [], hp => hp
  | i :: l, hp => dropHs l (dropH i hp)
def remH (ids : List Nat) : List (Nat × Res) → List (Nat × Res)
  | [] => []
  | (j, r) :: l => match ids.contains j with
    | true => remH ids l
    | false => (j, r) :: remH ids l
theorem get_remH (ids : List Nat) : ∀ (l : List (Nat × Res)) (i : Nat), get (remH ids l) i = if i ∈ ids then none else get l i
  | [], i => by simp [remH, get]
  | (j, r) :: l, i => by
    simp only [remH]
    by_cases hj : j ∈ ids
    · have : ids.contains j = true := by simpa using hj
      rw [this]
      simp only [get_remH ids l i, get_cons]
      by_cases hi : i ∈ ids
      · rw [if_pos hi, if_pos hi]
      · rw [if_neg hi, if_neg hi, if_neg (fun (e : j = i) => hi (by rw [← e]; exact hj))]
    · have : ids.contains j = false := by simpa using hj
      rw [this]
      simp only [get_cons, get_remH ids l i]
      by_cases e : j = i
      · subst e; rw [if_pos rfl, if_neg hj, if_pos rfl]
      · rw [if_neg e, if_neg e]
theorem get_append {α : Type} : ∀ (l l' : List (Nat × α)) (i : Nat), get (l ++ l') i = (get l i).or (get l' i)
  | [], l', i => by simp [get]
  | (j, x) :: l, l', i => by
    rw [List.cons_append, get_cons, get_cons]
    split
    · simp
    · exact get_append l l' i
theorem get_rnH {ρ : Nat → Nat} : ∀ (l : List (Nat × Res)) (j : Nat) (r : Res), get (rnH ρ l) j = some r → ∃ i r0, r = r0.rnm ρ ∧ j = ρ i ∧ (i, r0) ∈ l
  | [], _, _, h => by cases h
  | (i, r0) :: l, j, r, h => by
    simp only [rnH, get_cons] at h
    split at h
    · next e => obtain rfl := Option.some.inj h; exact ⟨i, r0, rfl, e.symm, by simp⟩
    · obtain ⟨i', r1, h1, h2, h3⟩ := get_rnH l j r h; exact ⟨i', r1, h1, h2, by simp [h3]⟩
theorem get_rnH_none {ρ : Nat → Nat} : ∀ (l : List (Nat × Res)) (j : Nat), (∀ p ∈ l, ρ p.1 ≠ j) → get (rnH ρ l) j = none
  | [], _, _ => rfl
  | (i, r0) :: l, j, h => by
    simp only [rnH, get_cons]
    rw [if_neg (h (i, r0) (by simp))]
    exact get_rnH_none l j (fun p hp => h p (by simp [hp]))

def noneB (pin : List (Nat × Value)) : List Nat → Bool
  | [] => true
  | i :: l => match get pin i with
    | none => noneB pin l
    | some _ => false
theorem noneB_spec {pin : List (Nat × Value)} : ∀ {l : List Nat}, noneB pin l = true → ∀ i ∈ l, get pin i = none
  | [], _, _, h => by cases h
  | j :: l, hb, i, hi => by
    simp only [noneB] at hb
    cases hg : get pin j with
    | some v => rw [hg] at hb; cases hb
    | none =>
      rw [hg] at hb
      rcases List.mem_cons.1 hi with rfl | hi
      · exact hg
      · exact noneB_spec hb i hi
def freshAll (st : St) : List Nat → Bool
  | [] => true
  | i :: l => match st.fresh i with
    | true => freshAll st l
    | false => false
theorem freshAll_spec {st : St} : ∀ {l : List Nat}, freshAll st l = true → ∀ i ∈ l, st.fresh i = true
  | [], _, _, h => by cases h
  | j :: l, hb, i, hi => by
    simp only [freshAll] at hb
    cases hg : st.fresh j with
    | false => rw [hg] at hb; cases hb
    | true =>
      rw [hg] at hb
      rcases List.mem_cons.1 hi with rfl | hi
      · exact hg
      · exact freshAll_spec hb i hi
def nodupB : List Nat → Bool
  | [] => true
  | i :: l => match l.contains i with
    | true => false
    | false => nodupB l
theorem nodupB_spec : ∀ {l : List Nat}, nodupB l = true → l.Nodup
  | [], _ => List.nodup_nil
  | i :: l, h => by
    simp only [nodupB] at h
    cases hc : l.contains i with
    | true => rw [hc] at h; cases h
    | false => rw [hc] at h; exact List.nodup_cons.2 ⟨by simpa using hc, nodupB_spec h⟩
theorem fresh_parts {st : St} {id : Nat} (h : st.fresh id = true) : freshT id st.tm = true ∧ freshH id st.hp = true := by
  unfold St.fresh at h
  cases hf : freshT id st.tm with
  | true => rw [hf] at h; exact ⟨rfl, h⟩
  | false => rw [hf] at h; cases h
theorem inj_of_nodup {ρ : Nat → Nat} : ∀ {l : List Nat}, (l.map ρ).Nodup → ∀ i ∈ l, ∀ j ∈ l, ρ i = ρ j → i = j
  | [], _, _, h, _, _, _ => by cases h
  | k :: l, hn, i, hi, j, hj, e => by
    rw [List.map_cons, List.nodup_cons] at hn
    rcases List.mem_cons.1 hi with rfl | hi
    · rcases List.mem_cons.1 hj with rfl | hj
      · rfl
      · exact absurd (List.mem_map.2 ⟨j, hj, e.symm⟩) hn.1
    · rcases List.mem_cons.1 hj with hj' | hj
      · rw [hj'] at e; exact absurd (List.mem_map.2 ⟨i, hi, e⟩) hn.1
      · exact inj_of_nodup hn.2 i hi j hj e

theorem dropTs_get : ∀ (ids : List Nat) (tm : List (Nat × AV)) (i : Nat) (av : AV), get (dropTs ids tm) i = some av → (∃ a0, get tm i = some a0 ∧ (av = a0 ∨ av = .junk)) ∧ ∀ j ∈ ids, av.names j = false
  | [], tm, i, av, h => ⟨⟨av, h, .inl rfl⟩, by simp⟩
  | k :: ids, tm, i, av, h => by
    obtain ⟨⟨a0, h1, h2⟩, h3⟩ := dropTs_get ids (dropT k tm) i av h
    rw [get_dropT] at h1
    obtain ⟨a1, h4, rfl⟩ := Option.map_eq_some_iff.1 h1
    refine ⟨⟨a1, h4, ?_⟩, fun j hj => ?_⟩
    · rcases h2 with rfl | rfl
      · unfold AV.drop; split
        · exact .inr rfl
        · exact .inl rfl
      · exact .inr rfl
    · rcases List.mem_cons.1 hj with rfl | hj
      · rcases h2 with rfl | rfl
        · exact AV.drop_names j a1
        · rfl
      · exact h3 j hj
theorem get_dropHs : ∀ (ids : List Nat) (hp : List (Nat × Res)) (i : Nat) (r : Res), get (dropHs ids hp) i = some r → ∃ r0, get hp i = some r0 ∧ (∀ j ∈ ids, r.names j = false) ∧
    (∀ {η S w hd F}, RRes η S w hd F r0 → RRes η S w hd F r) ∧ ∀ j, r.names j = true → r0.names j = true
  | [], hp, i, r, h => ⟨r, h, by simp, fun h => h, fun _ h => h⟩
  | k :: ids, hp, i, r, h => by
    obtain ⟨r1, h1, h2, h3, h5⟩ := get_dropHs ids (dropH k hp) i r h
    rw [get_dropH] at h1
    obtain ⟨r0, h4, rfl⟩ := Option.map_eq_some_iff.1 h1
    have key : ∀ (l : List AV) j, AV.namesL j (dropL k l) = true → AV.namesL j l = true := by
      intro l j
      induction l with
      | nil => intro h; exact h
      | cons a l ih =>
        intro h
        simp only [dropL, AV.namesL, Bool.or_eq_true] at h ⊢
        rcases h with h | h
        · left; unfold AV.drop at h; split at h
          · simp [AV.names] at h
          · exact h
        · exact .inr (ih h)
    refine ⟨r0, h4, fun j hj => ?_, fun {η S w hd F} hR => h3 ?_, fun j hj => ?_⟩
    · rcases List.mem_cons.1 hj with rfl | hj
      · cases hn : r.names j with
        | false => rfl
        | true => have := h5 j hn; rw [Res.drop_names] at this; cases this
      · exact h2 j hj
    · cases r0 with
      | box ty cs =>
        obtain ⟨b, arr, e1, e2, e3, e4⟩ := hR
        exact ⟨b, arr, e1, e2, e3, aRelL_drop k cs _ e4⟩
      | vec ty rs rows => exact hR
      | cust C => exact hR
    · have := h5 j hj
      cases r0 with
      | box ty cs => exact key cs j this
      | vec ty rs rows => exact this
      | cust C => exact this

/-- The values of names behind a call: those handed back by the callee, the others as they were. -/
def pickN {β : Type} (ρ : Nat → Nat) (hos : List Nat) (f' f : Nat → β) (j : Nat) : β := match get (hos.map fun i => (ρ i, i)) j with
  | some i => f' i
  | none => f j
theorem get_inv {ρ : Nat → Nat} : ∀ {hos : List Nat}, (∀ i ∈ hos, ∀ j ∈ hos, ρ i = ρ j → i = j) → ∀ i ∈ hos, get (hos.map fun i => (ρ i, i)) (ρ i) = some i
  | [], _, _, h => by cases h
  | k :: hos, hinj, i, hi => by
    rw [List.map_cons, get_cons]
    split
    · next e => rw [hinj k (by simp) i hi e]
    · next e =>
      rcases List.mem_cons.1 hi with rfl | hi
      · exact absurd rfl e
      · exact get_inv (fun a ha b hb => hinj a (by simp [ha]) b (by simp [hb])) i hi
theorem get_inv_mem {ρ : Nat → Nat} : ∀ {hos : List Nat} (j i : Nat), get (hos.map fun i => (ρ i, i)) j = some i → i ∈ hos ∧ ρ i = j
  | [], _, _, h => by cases h
  | k :: hos, j, i, h => by
    rw [List.map_cons, get_cons] at h
    split at h
    · next e => obtain rfl := Option.some.inj h; exact ⟨by simp, e⟩
    · obtain ⟨h1, h2⟩ := get_inv_mem j i h; exact ⟨by simp [h1], h2⟩
theorem get_inv_none {ρ : Nat → Nat} {hos : List Nat} {j : Nat} (h : ∀ i ∈ hos, ρ i ≠ j) : get (hos.map fun i => (ρ i, i)) j = none := by
  cases hg : get (hos.map fun i => (ρ i, i)) j with
  | none => rfl
  | some i => obtain ⟨h1, h2⟩ := get_inv_mem j i hg; exact absurd h2 (h i h1)
theorem mem_of_get {α : Type} : ∀ {l : List (Nat × α)} {i : Nat} {x : α}, get l i = some x → (i, x) ∈ l
  | [], _, _, h => by cases h
  | (j, y) :: l, i, x, h => by
    rw [get_cons] at h
    split at h
    · next e => subst e; obtain rfl := Option.some.inj h; simp
    · simp [mem_of_get h]
theorem get_of_mem {α : Type} : ∀ {l : List (Nat × α)}, (l.map (·.1)).Nodup → ∀ {i : Nat} {x : α}, (i, x) ∈ l → get l i = some x
  | [], _, _, _, h => by cases h
  | (j, y) :: l, hn, i, x, h => by
    rw [List.map_cons, List.nodup_cons] at hn
    rw [get_cons]
    rcases List.mem_cons.1 h with h | h
    · simp only [Prod.mk.injEq] at h; obtain ⟨rfl, rfl⟩ := h; rw [if_pos rfl]
    · rw [if_neg (fun e => hn.1 (by rw [e]; exact List.mem_map.2 ⟨(i, x), h, rfl⟩))]; exact get_of_mem hn.2 h

section
variable {P : Program} {fr : Fr} {st : St}

/-- Behind a call: what was handed in is gone, what is handed back is there; what named a handle that may have turned is forgotten. -/
def St.behindCall (st : St) (ρ : Nat → Nat) (his _hos kp : List Nat) (ho : List (Nat × Res)) : St :=
  ⟨dropTs ((his.filter fun i => !kp.contains i).map ρ) st.tm, rnH ρ ho ++ dropHs ((his.filter fun i => !kp.contains i).map ρ) (remH (his.map ρ) st.hp)⟩

/-- The blocks of things that a call is not handed. -/
def St.Oth (st : St) (φ : Nat → List Nat) (ids : List Nat) (k : Nat) : Prop := ∃ j r, get st.hp j = some r ∧ j ∉ ids ∧ k ∈ φ j

theorem RepE.called {η : Nat → Value} {φ : Nat → List Nat} {a : Act} {w w' : World} (hr : RepE fr η φ st a w) {ρ : Nat → Nat} {hi ho : List (Nat × Res)} {his hos kp : List Nat}
    (hhis : hi.map (·.1) = his) (hhos : ho.map (·.1) = hos) (hh : HasH st.hp ρ hi) (hnd : nodupB ((his ++ hos.filter fun i => !his.contains i).map ρ) = true)
    (hnh : nodupB hos = true) (hni : nodupB his = true)
    (hfr : freshAll st ((hos.filter fun i => !his.contains i).map ρ) = true)
    (hpin : noneB fr.pin (((his.filter fun i => !kp.contains i) ++ hos.filter fun i => !his.contains i).map ρ) = true)
    (hin : inBH hos ho = true)
    {η' : Nat → Value} {φ' : Nat → List Nat} (hok : HpOk η' φ' ho w') (hkp : ∀ i, i ∈ kp → η' i = η (ρ i))
    (hblk : ∀ i r k, get ho i = some r → k ∈ φ' i → SOf (fun i => φ (ρ i)) hi k ∨ w.heap.size ≤ k) (hkeep : Keep (SOf (fun i => φ (ρ i)) hi) w w')
    (hRes : ∀ i r, get ho i = some r → RRes η' (fun k => SOf φ' ho k ∨ st.Oth φ (his.map ρ) k) w' (η' i) (φ' i) r) :
    RepE fr (pickN ρ hos η' η) (pickN ρ hos φ' φ) (st.behindCall ρ his hos kp ho) a w' ∧ (∀ r : AV, r.inB hos = true → ∀ u, ARel η' (fun k => SOf φ' ho k ∨ st.Oth φ (his.map ρ) k) w' r u → ARel (pickN ρ hos η' η) (SOf (pickN ρ hos φ' φ) (st.behindCall ρ his hos kp ho).hp) w' (r.rnm ρ) u) := by
  have hinjAll := inj_of_nodup (nodupB_spec hnd)
  have memAll : ∀ i, i ∈ his ∨ i ∈ hos → i ∈ his ++ hos.filter fun i => !his.contains i := by
    intro i h
    rw [List.mem_append, List.mem_filter]
    by_cases hi' : i ∈ his
    · exact .inl hi'
    · rcases h with h | h
      · exact .inl h
      · exact .inr ⟨h, by simpa using hi'⟩
  have hinj : ∀ i, i ∈ his ∨ i ∈ hos → ∀ j, j ∈ his ∨ j ∈ hos → ρ i = ρ j → i = j := fun i h j h' => hinjAll i (memAll i h) j (memAll j h')
  have hinv : ∀ i ∈ hos, get (hos.map fun i => (ρ i, i)) (ρ i) = some i := get_inv (fun i h j h' => hinj i (.inr h) j (.inr h'))
  have pk : ∀ {β : Type} (f' f : Nat → β) (i : Nat), i ∈ hos → pickN ρ hos f' f (ρ i) = f' i := by
    intro β f' f i h; unfold pickN; rw [hinv i h]
  have pn : ∀ {β : Type} (f' f : Nat → β) (j : Nat), (∀ i ∈ hos, ρ i ≠ j) → pickN ρ hos f' f j = f j := by
    intro β f' f j h; unfold pickN; rw [get_inv_none h]
  -- what was handed in
  have hiGet : ∀ i, i ∈ his → ∃ r, get hi i = some r := by
    intro i h
    rw [← hhis] at h
    obtain ⟨⟨j, r⟩, hm, rfl⟩ := List.mem_map.1 h
    exact ⟨r, get_of_mem (by rw [hhis]; exact nodupB_spec hni) hm⟩
  have hoGet : ∀ i, i ∈ hos → ∃ r, get ho i = some r := by
    intro i h
    rw [← hhos] at h
    obtain ⟨⟨j, r⟩, hm, rfl⟩ := List.mem_map.1 h
    exact ⟨r, get_of_mem (by rw [hhos]; exact nodupB_spec hnh) hm⟩
  have hoMem : ∀ i r, get ho i = some r → i ∈ hos := fun i r h => by rw [← hhos]; exact List.mem_map.2 ⟨(i, r), mem_of_get h, rfl⟩
  have hiMem : ∀ i r, get hi i = some r → i ∈ his := fun i r h => by rw [← hhis]; exact List.mem_map.2 ⟨(i, r), mem_of_get h, rfl⟩
  have hSi : ∀ k, SOf (fun i => φ (ρ i)) hi k → SOf φ st.hp k := by
    rintro k ⟨i, r, hg, hm⟩; exact ⟨ρ i, _, hh.spec i r hg, hm⟩
  have hSame : Same (SOf φ st.hp) w w' := ⟨hkeep.size, fun k hk hn => hkeep.block k hk (fun h => hn (hSi k h))⟩
  have fresh_names : ∀ i ∈ hos, i ∉ his → ∀ j av, get st.tm j = some av → av.names (ρ i) = false := by
    intro i h1 h2 j av hg
    have := freshAll_spec hfr (ρ i) (List.mem_map.2 ⟨i, List.mem_filter.2 ⟨h1, by simpa using h2⟩, rfl⟩)
    exact freshT_spec (fresh_parts this).1 j av hg
  have fresh_hp : ∀ i ∈ hos, i ∉ his → get st.hp (ρ i) = none ∧ ∀ j r, get st.hp j = some r → r.names (ρ i) = false := by
    intro i h1 h2
    have := freshAll_spec hfr (ρ i) (List.mem_map.2 ⟨i, List.mem_filter.2 ⟨h1, by simpa using h2⟩, rfl⟩)
    exact freshH_spec (fresh_parts this).2
  -- the state's things
  have hpGet : ∀ j r, get (st.behindCall ρ his hos kp ho).hp j = some r →
      (∃ i r0, i ∈ hos ∧ get ho i = some r0 ∧ r = r0.rnm ρ ∧ j = ρ i) ∨
      ((∀ i ∈ hos, ρ i ≠ j) ∧ (∀ i ∈ his, ρ i ≠ j) ∧ ∃ r0, get st.hp j = some r0 ∧ (∀ i ∈ his, i ∉ kp → r.names (ρ i) = false) ∧ (∀ {η S w hd F}, RRes η S w hd F r0 → RRes η S w hd F r) ∧ ∀ j, r.names j = true → r0.names j = true) := by
    intro j r h
    simp only [St.behindCall, get_append] at h
    cases h0 : get (rnH ρ ho) j with
    | some r1 =>
      rw [h0] at h
      simp only [Option.some_or, Option.some.injEq] at h; subst h
      obtain ⟨i, r0, e1, e2, e3⟩ := get_rnH ho j r1 h0
      exact .inl ⟨i, r0, by rw [← hhos]; exact List.mem_map.2 ⟨(i, r0), e3, rfl⟩, get_of_mem (by rw [hhos]; exact nodupB_spec hnh) e3, e1, e2⟩
    | none =>
      rw [h0] at h
      simp only [Option.none_or] at h
      obtain ⟨r0, h1, h2, h3, h4⟩ := get_dropHs _ _ j r h
      rw [get_remH] at h1
      split at h1
      · cases h1
      · next hni' =>
        have hnhis : ∀ i ∈ his, ρ i ≠ j := fun i hi' e => hni' (List.mem_map.2 ⟨i, hi', e⟩)
        refine .inr ⟨?_, hnhis, r0, h1, ?_, h3, h4⟩
        · intro i hi' e
          by_cases hh' : i ∈ his
          · exact hnhis i hh' e
          · have := (fresh_hp i hi' hh').1; rw [e, h1] at this; cases this
        · intro i hi' hk
          exact h2 (ρ i) (List.mem_map.2 ⟨i, List.mem_filter.2 ⟨hi', by simpa using hk⟩, rfl⟩)
  have hS : ∀ k, k < w.heap.size → SOf (pickN ρ hos φ' φ) (st.behindCall ρ his hos kp ho).hp k → SOf φ st.hp k := by
    rintro k hk ⟨j, r, hg, hm⟩
    rcases hpGet j r hg with ⟨i, r0, h1, h2, _, rfl⟩ | ⟨h1, _, r0, h2, _⟩
    · rw [pk φ' φ i h1] at hm
      rcases hblk i r0 k h2 hm with h | h
      · exact hSi k h
      · omega
    · rw [pn φ' φ j h1] at hm; exact ⟨j, r0, h2, hm⟩
  -- names that stay
  have stay : ∀ j, (∀ i ∈ hos, i ∉ his → ρ i ≠ j) → (∀ i ∈ his, i ∉ kp → ρ i ≠ j) → pickN ρ hos η' η j = η j := by
    intro j h1 h2
    by_cases hx : ∃ i ∈ hos, ρ i = j
    · obtain ⟨i, hi', rfl⟩ := hx
      rw [pk η' η i hi']
      by_cases hh' : i ∈ his
      · by_cases hk : i ∈ kp
        · exact hkp i hk
        · exact absurd rfl (h2 i hh' hk)
      · exact absurd rfl (h1 i hi' hh')
    · exact pn η' η j (fun i hi' e => hx ⟨i, hi', e⟩)
  have hS2 : ∀ k, SOf (pickN ρ hos φ' φ) (st.behindCall ρ his hos kp ho).hp k → SOf φ' ho k ∨ st.Oth φ (his.map ρ) k := by
    rintro k ⟨j, r, hg, hm⟩
    rcases hpGet j r hg with ⟨i, r0, h1, h2, _, rfl⟩ | ⟨h1, h3, r0, h2, _⟩
    · rw [pk φ' φ i h1] at hm; exact .inl ⟨i, r0, h2, hm⟩
    · rw [pn φ' φ j h1] at hm
      exact .inr ⟨j, r0, h2, fun h => by obtain ⟨i, h4, h5⟩ := List.mem_map.1 h; exact h3 i h4 h5, hm⟩
  -- blocks of the others are not among those of the call
  have apart : ∀ j r0 k, get st.hp j = some r0 → (∀ i ∈ his, ρ i ≠ j) → k ∈ φ j → ¬ SOf (fun i => φ (ρ i)) hi k := by
    rintro j r0 k hg hj hk ⟨i, r, hg', hm⟩
    exact hj i (hiMem i r hg') (hr.disj _ _ _ _ k (hh.spec i r hg') hg hm hk)
  have hw' : Same (fun k => SOf φ' ho k ∨ st.Oth φ (his.map ρ) k) w' w' := ⟨Nat.le_refl _, fun _ _ _ => rfl⟩
  have hinH := inBH_spec hin
  refine ⟨⟨hr.defers, hr.size, ?_, ?_, ?_, ?_, ?_, ?_, ?_⟩, ?_⟩
  · intro i av hg
    obtain ⟨⟨a0, h1, h2⟩, h3⟩ := dropTs_get _ _ i av hg
    obtain ⟨u, h4, h5⟩ := hr.slots i a0 h1
    rcases h2 with rfl | rfl
    · refine ⟨u, h4, ARel.mono hSame hS av u (fun j hj => stay j ?_ ?_) h5⟩
      · intro i' h6 h7 e; subst e; rw [fresh_names i' h6 h7 i av h1] at hj; cases hj
      · intro i' h6 h7 e; subst e; rw [h3 (ρ i') (List.mem_map.2 ⟨i', List.mem_filter.2 ⟨h6, by simpa using h7⟩, rfl⟩)] at hj; cases hj
    · exact ⟨u, h4, by simp only [ARel]⟩
  · intro j r hg
    rcases hpGet j r hg with ⟨i, r0, h1, h2, rfl, rfl⟩ | ⟨h1, h3, r0, h2, h4, h5, h6⟩
    · rw [pk φ' φ i h1, pk η' η i h1]
      refine (RRes.rnm r0).1 (RRes.mono hw' (fun k _ h => hS2 k h) (fun _ _ => rfl) r0 (fun i' hi' => ?_) (hRes i r0 h2))
      exact pk η' η i' ((hinH i r0 h2).2 i' hi')
    · rw [pn φ' φ j h1, pn η' η j h1]
      refine RRes.mono hSame hS (fun k hk => hkeep.block k (hr.lt j r0 k h2 hk) (apart j r0 k h2 h3 hk)) r (fun j' hj' => stay j' ?_ ?_) (h5 (hr.res j r0 h2))
      · intro i' h7 h8 e; subst e; have h9 := h6 _ hj'; rw [(fresh_hp i' h7 h8).2 j r0 h2] at h9; cases h9
      · intro i' h7 h8 e; subst e; rw [h4 i' h7 h8] at hj'; cases hj'
  · intro j j' r r' k h1 h2 h3 h4
    rcases hpGet j r h1 with ⟨i, r0, e1, e2, _, rfl⟩ | ⟨e1, e2, r0, e3, _⟩
    · rw [pk φ' φ i e1] at h3
      rcases hpGet j' r' h2 with ⟨i', r0', f1, f2, _, rfl⟩ | ⟨f1, f2, r0', f3, _⟩
      · rw [pk φ' φ i' f1] at h4
        rw [hok.disj i i' r0 r0' k e2 f2 h3 h4]
      · rw [pn φ' φ j' f1] at h4
        rcases hblk i r0 k e2 h3 with h | h
        · exact absurd h (apart j' r0' k f3 f2 h4)
        · have := hr.lt j' r0' k f3 h4; omega
    · rw [pn φ' φ j e1] at h3
      rcases hpGet j' r' h2 with ⟨i', r0', f1, f2, _, rfl⟩ | ⟨f1, f2, r0', f3, _⟩
      · rw [pk φ' φ i' f1] at h4
        rcases hblk i' r0' k f2 h4 with h | h
        · exact absurd h (apart j r0 k e3 e2 h3)
        · have := hr.lt j r0 k e3 h3; omega
      · rw [pn φ' φ j' f1] at h4
        exact hr.disj j j' r0 r0' k e3 f3 h3 h4
  · intro j r k h1 h3
    rcases hpGet j r h1 with ⟨i, r0, e1, e2, _, rfl⟩ | ⟨e1, e2, r0, e3, _⟩
    · rw [pk φ' φ i e1] at h3
      rcases hblk i r0 k e2 h3 with ⟨i', r1, h4, h5⟩ | h
      · exact hr.low (ρ i') _ k (hh.spec i' r1 h4) h5
      · exact .inl (Nat.le_trans hr.keep.size h)
    · rw [pn φ' φ j e1] at h3; exact hr.low j r0 k e3 h3
  · intro j r k h1 h3
    rcases hpGet j r h1 with ⟨i, r0, e1, e2, _, rfl⟩ | ⟨e1, e2, r0, e3, _⟩
    · rw [pk φ' φ i e1] at h3; exact hok.lt i r0 k e2 h3
    · rw [pn φ' φ j e1] at h3; exact Nat.lt_of_lt_of_le (hr.lt j r0 k e3 h3) hkeep.size
  · refine ⟨hkeep.os.trans hr.keep.os, hkeep.tape.trans hr.keep.tape, hkeep.output.trans hr.keep.output, Nat.le_trans hr.keep.size hkeep.size, fun k hk hs => ?_⟩
    refine (hkeep.block k (Nat.lt_of_lt_of_le hk hr.keep.size) ?_).trans (hr.keep.block k hk hs)
    rintro ⟨i, r, hg, hm⟩
    rcases hr.low (ρ i) _ k (hh.spec i r hg) hm with h | h
    · omega
    · exact hs h
  · intro i v hi'
    rw [stay i ?_ ?_]
    · exact hr.pin i v hi'
    · intro i' h1 h2 e; subst e
      have := noneB_spec hpin (ρ i') (List.mem_map.2 ⟨i', List.mem_append.2 (.inr (List.mem_filter.2 ⟨h1, by simpa using h2⟩)), rfl⟩)
      rw [this] at hi'; cases hi'
    · intro i' h1 h2 e; subst e
      have := noneB_spec hpin (ρ i') (List.mem_map.2 ⟨i', List.mem_append.2 (.inl (List.mem_filter.2 ⟨h1, by simpa using h2⟩)), rfl⟩)
      rw [this] at hi'; cases hi'
  · intro r hrin u hu
    refine (ARel.rnm r u).1 (ARel.mono hw' (fun k _ h => hS2 k h) r u (fun i' hi' => ?_) hu)
    exact pk η' η i' (AV.inB_spec r hrin hi')

/-! What a contract says beside the things that a call is handed: blocks that are not to be touched. -/
def extC (w0 : World) (F0 : List Nat) : Cust where
  R := fun _ w hd F => hd = .pointer none ∧ F = F0 ∧ ∀ k ∈ F, w.heap[k]? = w0.heap[k]?
  view := none
  mono := fun _ _ hF ⟨h1, h2, h3⟩ => ⟨h1, h2, fun k hk => (hF k hk).trans (h3 k hk)⟩
  shape := fun ⟨h1, _⟩ => .inl ⟨_, h1⟩
  ok := fun h => by cases h

/-- A contract of that kind, whatever other blocks there are. -/
def FnE {α : Type} (P : Program) (f : FuncId) (args : List AV) (hi : List (Nat × Res)) (kp : List Nat) (R : α → Prop) (r : α → AV) (ho : α → List (Nat × Res)) : Prop :=
  ∀ w0 F0, FnX P f args ((900, .cust (extC w0 F0)) :: hi) kp R r (fun x => (900, .cust (extC w0 F0)) :: ho x)
end
end Go.V
