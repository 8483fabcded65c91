/- The calculus' rules: calls. -/
import Derived.Test.YtbbechcbdeknnaaV6
set_option linter.all false
namespace Go.V
open Go Go.RowKit

/-! Values that hold no address. -/
mutual
def PV.Flat : PV → Prop
  | .v _ => True
  | .ptr _ => False
  | .sl _ _ => False
  | .agg cs => PV.FlatL cs
  | .tup cs => PV.FlatL cs
  | .clo _ cs => PV.FlatL cs
def PV.FlatL : List PV → Prop
  | [] => True
  | c :: cs => c.Flat ∧ PV.FlatL cs
end
mutual
theorem Rel.flat {S S' : Nat → Prop} {w w' : World} : ∀ (x : PV) (u : Value), x.Flat → Rel S w x u → Rel S' w' x u
  | .v _, _, _, h => by simpa only [Rel] using h
  | .ptr _, _, hf, _ => by simp only [PV.Flat] at hf
  | .sl _ _, _, hf, _ => by simp only [PV.Flat] at hf
  | .agg cs, u, hf, h => by
    simp only [Rel, PV.Flat] at h hf ⊢
    obtain ⟨us, h1, h2⟩ := h
    exact ⟨us, h1, RelL.flat cs us.toList hf h2⟩
  | .tup cs, u, hf, h => by
    simp only [Rel, PV.Flat] at h hf ⊢
    obtain ⟨us, h1, h2⟩ := h
    exact ⟨us, h1, RelL.flat cs us.toList hf h2⟩
  | .clo _ cs, u, hf, h => by
    simp only [Rel, PV.Flat] at h hf ⊢
    obtain ⟨us, h1, h2⟩ := h
    exact ⟨us, h1, RelL.flat cs us.toList hf h2⟩
theorem RelL.flat {S S' : Nat → Prop} {w w' : World} : ∀ (cs : List PV) (us : List Value), PV.FlatL cs → RelL S w cs us → RelL S' w' cs us
  | [], _, _, h => by simpa only [RelL] using h
  | c :: cs, us, hf, h => by
    simp only [RelL, PV.FlatL] at h hf ⊢
    obtain ⟨u, us', h1, h2, h3⟩ := h
    exact ⟨u, us', h1, Rel.flat c u hf.1 h2, RelL.flat cs us' hf.2 h3⟩
end

/-! The one value of plain data without addresses. -/
mutual
def conc : PV → Option Value
  | .v x => some x
  | .agg cs => match concL cs with
    | some l => some (.agg l.toArray)
    | none => none
  | .tup cs => match concL cs with
    | some l => some (.tuple l.toArray)
    | none => none
  | _ => none
def concL : List PV → Option (List Value)
  | [] => some []
  | c :: cs => match conc c with
    | some x => match concL cs with
      | some l => some (x :: l)
      | none => none
    | none => none
end
mutual
theorem conc_spec {S : Nat → Prop} {w : World} : ∀ (x : PV) (c : Value), conc x = some c → ∀ u, Rel S w x u ↔ u = c
  | .v y, c, h, u => by simp only [conc, Option.some.injEq] at h; subst h; simp only [Rel]
  | .agg cs, c, h, u => by
    simp only [conc] at h
    cases hl : concL cs with
    | none => rw [hl] at h; cases h
    | some l =>
      rw [hl] at h
      simp only [Option.some.injEq] at h; subst h
      have := concL_spec (S := S) (w := w) cs l hl
      simp only [Rel]
      constructor
      · rintro ⟨us, rfl, h2⟩; rw [this] at h2; rw [← h2]
      · rintro rfl; exact ⟨l.toArray, rfl, by rw [this]⟩
  | .tup cs, c, h, u => by
    simp only [conc] at h
    cases hl : concL cs with
    | none => rw [hl] at h; cases h
    | some l =>
      rw [hl] at h
      simp only [Option.some.injEq] at h; subst h
      have := concL_spec (S := S) (w := w) cs l hl
      simp only [Rel]
      constructor
      · rintro ⟨us, rfl, h2⟩; rw [this] at h2; rw [← h2]
      · rintro rfl; exact ⟨l.toArray, rfl, by rw [this]⟩
  | .ptr _, _, h, _ => by simp [conc] at h
  | .sl _ _, _, h, _ => by simp [conc] at h
  | .clo _ _, _, h, _ => by simp [conc] at h
theorem concL_spec {S : Nat → Prop} {w : World} : ∀ (cs : List PV) (l : List Value), concL cs = some l → ∀ us, RelL S w cs us ↔ us = l
  | [], l, h, us => by simp only [concL, Option.some.injEq] at h; subst h; simp only [RelL]
  | c :: cs, l, h, us => by
    simp only [concL] at h
    cases hc : conc c with
    | none => rw [hc] at h; cases h
    | some x =>
      rw [hc] at h
      simp only at h
      cases hl : concL cs with
      | none => rw [hl] at h; cases h
      | some l' =>
        rw [hl] at h
        simp only [Option.some.injEq] at h; subst h
        have h1 := conc_spec (S := S) (w := w) c x hc
        have h2 := concL_spec (S := S) (w := w) cs l' hl
        simp only [RelL]
        constructor
        · rintro ⟨u, us', rfl, h3, h4⟩; rw [h1] at h3; rw [h2] at h4; rw [h3, h4]
        · rintro rfl; exact ⟨x, l', rfl, (h1 x).2 rfl, (h2 l').2 rfl⟩
end

/-- A function that only reads: of arguments that read as told it returns what is told, and leaves all that was there as it was. -/
def Pure (P : Program) (f : FuncId) (args : List PV) (r : PV) : Prop :=
  ∀ (w : World) (us : List Value), RelL (fun _ => False) w args us →
    Calls P f us.toArray w fun e w' => ∃ u, e = .returned u ∧ Rel (fun _ => False) w' r u ∧ Below w.heap.size w w'

/-! A slot's content, read as plain data. -/
def St.view0 (st : St) : AV → Option PV
  | .p x => some x
  | .h id => match get st.hp id with
    | some (.vec _ rs rows) => some (.sl rs rows)
    | some (.cust C) => C.view
    | _ => none
  | _ => none
def St.view0L (st : St) : List AV → Option (List PV)
  | [] => some []
  | c :: cs => match st.view0 c with
    | some x => match st.view0L cs with
      | some l => some (x :: l)
      | none => none
    | none => none
def St.view1 (st : St) : AV → Option PV
  | .p x => some x
  | .agg cs => match st.view0L cs with
    | some l => some (.agg l)
    | none => none
  | .h id => match get st.hp id with
    | some (.vec _ rs rows) => some (.sl rs rows)
    | some (.cust C) => C.view
    | some (.box _ cs) => match st.view0L cs with
      | some l => some (.ptr l)
      | none => none
    | none => none
  | .el id rs row off => match st.behind (.el id rs row off) with
    | some cs => match st.view0L cs with
      | some l => some (.ptr l)
      | none => none
    | none => none
  | _ => none
def St.view1L (st : St) : List AV → Option (List PV)
  | [] => some []
  | c :: cs => match st.view1 c with
    | some x => match st.view1L cs with
      | some l => some (x :: l)
      | none => none
    | none => none
def St.view (st : St) : AV → Option PV
  | .clo f cs => match st.view1L cs with
    | some l => some (.clo f l)
    | none => none
  | av => st.view1 av
def St.viewL (st : St) : List AV → Option (List PV)
  | [] => some []
  | c :: cs => match st.view c with
    | some x => match st.viewL cs with
      | some l => some (x :: l)
      | none => none
    | none => none

section
variable {P : Program} {fr : Fr} {st : St}

theorem rel_free {S : Nat → Prop} {w : World} {x : PV} {u : Value} (h : Rel S w x u) : Rel (fun _ => False) w x u :=
  Rel.mono ⟨Nat.le_refl _, fun _ _ _ => rfl⟩ (fun _ _ h => h.elim) x u h

theorem relRows_of_at {S : Nat → Prop} {w : World} {b rs : Nat} : ∀ (rows : List (List PV)) (o : Nat), (∀ r ∈ rows, r.length = rs) → (∀ i r, rows[i]? = some r → RelAt S w b (o + i * rs) r) → RelRows S w b rs o rows
  | [], _, _, _ => by simp [RelRows]
  | r :: rows, o, hl, h => by
    simp only [RelRows]
    refine ⟨hl r (by simp), by simpa using h 0 r (by simp), relRows_of_at rows (o + rs) (fun q hq => hl q (by simp [hq])) (fun i q hq => ?_)⟩
    have := h (i + 1) q (by simpa using hq)
    rwa [show o + (i + 1) * rs = o + rs + i * rs by rw [Nat.add_mul]; omega] at this

theorem vec_view {η : Nat → Value} {φ : Nat → List Nat} {a : Act} {w : World} (hr : RepE fr η φ st a w) {id : Nat} {ty : TypeId} {rs : Nat} {rows : List (List PV)} (hg : get st.hp id = some (.vec ty rs rows)) :
    Rel (fun _ => False) w (.sl rs rows) (η id) := by
  have h := hr.res id _ hg
  obtain ⟨xs, h1, h2, h3, h4⟩ := h
  simp only [Rel]
  rcases h3.2 with ⟨e, hn⟩ | ⟨g, cap, cur, e, _, hgb, hnc, _⟩
  · exact ⟨none, 0, by rw [e, hn], by omega, .inl (List.eq_nil_of_length_eq_zero hn)⟩
  · refine ⟨_, cap, e, hnc, .inr ⟨g, 0, rfl, (fun h => h), (Array.getElem?_eq_some_iff.1 hgb).1, ?_⟩⟩
    refine RelRows.mono (S := SOf φ st.hp) (w := w) ⟨Nat.le_refl _, fun _ _ _ => rfl⟩ (fun _ _ h => h.elim) rfl 0 rows (relRows_of_at rows 0 h2 (fun i r hir => ?_))
    have := (hr.res id _ hg).row hir (b := g) (by rw [e]; rfl)
    simpa using this

theorem view0_rel {av : AV} {x : PV} (hv : st.view0 av = some x) {η : Nat → Value} {φ : Nat → List Nat} {a : Act} {w : World} (hr : RepE fr η φ st a w) {u : Value} (h : ARel η (SOf φ st.hp) w av u) :
    Rel (fun _ => False) w x u := by
  cases av with
  | p y => simp only [St.view0, Option.some.injEq] at hv; subst hv; simp only [ARel] at h; exact rel_free h
  | h id =>
    simp only [St.view0] at hv
    cases hg : get st.hp id with
    | none => rw [hg] at hv; cases hv
    | some r =>
      rw [hg] at hv
      cases r with
      | box => cases hv
      | cust C =>
        simp only [ARel] at h; subst h
        exact C.ok hv (hr.res id _ hg)
      | vec ty rs rows =>
        simp only [Option.some.injEq] at hv; subst hv
        simp only [ARel] at h; subst h
        exact vec_view hr hg
  | _ => cases hv

theorem view0L_rel {η : Nat → Value} {φ : Nat → List Nat} {a : Act} {w : World} (hr : RepE fr η φ st a w) : ∀ (cs : List AV) (l : List PV) (us : List Value), st.view0L cs = some l → ARelL η (SOf φ st.hp) w cs us → RelL (fun _ => False) w l us
  | [], l, us, hv, h => by simp only [St.view0L, Option.some.injEq] at hv; subst hv; simpa [ARelL, RelL] using h
  | c :: cs, l, us, hv, h => by
    simp only [St.view0L] at hv
    cases hc : st.view0 c with
    | none => rw [hc] at hv; cases hv
    | some x =>
      rw [hc] at hv
      simp only at hv
      cases hl : st.view0L cs with
      | none => rw [hl] at hv; cases hv
      | some l' =>
        rw [hl] at hv
        simp only [Option.some.injEq] at hv; subst hv
        simp only [ARelL] at h
        obtain ⟨u, us', rfl, h2, h3⟩ := h
        simp only [RelL]
        exact ⟨u, us', rfl, view0_rel hc hr h2, view0L_rel hr cs l' us' hl h3⟩

theorem view0L_at {η : Nat → Value} {φ : Nat → List Nat} {a : Act} {w : World} (hr : RepE fr η φ st a w) {b : Nat} : ∀ (o : Nat) (cs : List AV) (l : List PV), st.view0L cs = some l → ARelAt η (SOf φ st.hp) w b o cs → RelAt (fun _ => False) w b o l
  | _, [], l, hv, h => by simp only [St.view0L, Option.some.injEq] at hv; subst hv; simp [RelAt]
  | o, c :: cs, l, hv, h => by
    simp only [St.view0L] at hv
    cases hc : st.view0 c with
    | none => rw [hc] at hv; cases hv
    | some x =>
      rw [hc] at hv
      simp only at hv
      cases hl : st.view0L cs with
      | none => rw [hl] at hv; cases hv
      | some l' =>
        rw [hl] at hv
        simp only [Option.some.injEq] at hv; subst hv
        simp only [ARelAt] at h
        obtain ⟨⟨u, h1, h2⟩, h3⟩ := h
        simp only [RelAt]
        exact ⟨⟨u, h1, view0_rel hc hr h2⟩, view0L_at hr (o + 1) cs l' hl h3⟩

theorem view1_rel {av : AV} {x : PV} (hv : st.view1 av = some x) {η : Nat → Value} {φ : Nat → List Nat} {a : Act} {w : World} (hr : RepE fr η φ st a w) {u : Value} (h : ARel η (SOf φ st.hp) w av u) :
    Rel (fun _ => False) w x u := by
  have point : ∀ (cs : List AV) (l : List PV), st.behind av = some cs → st.view0L cs = some l → Rel (fun _ => False) w (.ptr l) u := by
    intro cs l hb hl
    obtain ⟨b, o, e1, e2, e3⟩ := behind_rel hb hr h
    simp only [Rel]
    exact ⟨b, o, e1, id, e2, view0L_at hr o cs l hl e3⟩
  cases av with
  | p y => simp only [St.view1, Option.some.injEq] at hv; subst hv; simp only [ARel] at h; exact rel_free h
  | agg cs =>
    simp only [St.view1] at hv
    cases hl : st.view0L cs with
    | none => rw [hl] at hv; cases hv
    | some l =>
      rw [hl] at hv
      simp only [Option.some.injEq] at hv; subst hv
      simp only [ARel] at h
      obtain ⟨us, rfl, h2⟩ := h
      simp only [Rel]
      exact ⟨us, rfl, view0L_rel hr cs l _ hl h2⟩
  | h id =>
    simp only [St.view1] at hv
    cases hg : get st.hp id with
    | none => rw [hg] at hv; cases hv
    | some r =>
      rw [hg] at hv
      cases r with
      | cust C =>
        simp only [ARel] at h; subst h
        exact C.ok hv (hr.res id _ hg)
      | box ty cs =>
        simp only at hv
        cases hl : st.view0L cs with
        | none => rw [hl] at hv; cases hv
        | some l =>
          rw [hl] at hv
          simp only [Option.some.injEq] at hv; subst hv
          exact point cs l (by simp only [St.behind, hg]) hl
      | vec ty rs rows =>
        simp only [Option.some.injEq] at hv; subst hv
        simp only [ARel] at h; subst h
        exact vec_view hr hg
  | el id rs row off =>
    simp only [St.view1] at hv
    cases hb : st.behind (.el id rs row off) with
    | none => rw [hb] at hv; cases hv
    | some cs =>
      rw [hb] at hv
      simp only at hv
      cases hl : st.view0L cs with
      | none => rw [hl] at hv; cases hv
      | some l =>
        rw [hl] at hv
        simp only [Option.some.injEq] at hv; subst hv
        exact point cs l hb hl
  | _ => cases hv

theorem view1L_rel {η : Nat → Value} {φ : Nat → List Nat} {a : Act} {w : World} (hr : RepE fr η φ st a w) : ∀ (cs : List AV) (l : List PV) (us : List Value), st.view1L cs = some l → ARelL η (SOf φ st.hp) w cs us → RelL (fun _ => False) w l us
  | [], l, us, hv, h => by simp only [St.view1L, Option.some.injEq] at hv; subst hv; simpa [ARelL, RelL] using h
  | c :: cs, l, us, hv, h => by
    simp only [St.view1L] at hv
    cases hc : st.view1 c with
    | none => rw [hc] at hv; cases hv
    | some x =>
      rw [hc] at hv
      simp only at hv
      cases hl : st.view1L cs with
      | none => rw [hl] at hv; cases hv
      | some l' =>
        rw [hl] at hv
        simp only [Option.some.injEq] at hv; subst hv
        simp only [ARelL] at h
        obtain ⟨u, us', rfl, h2, h3⟩ := h
        simp only [RelL]
        exact ⟨u, us', rfl, view1_rel hc hr h2, view1L_rel hr cs l' us' hl h3⟩

theorem view_rel {av : AV} {x : PV} (hv : st.view av = some x) {η : Nat → Value} {φ : Nat → List Nat} {a : Act} {w : World} (hr : RepE fr η φ st a w) {u : Value} (h : ARel η (SOf φ st.hp) w av u) :
    Rel (fun _ => False) w x u := by
  cases av with
  | clo f cs =>
    simp only [St.view] at hv
    cases hl : st.view1L cs with
    | none => rw [hl] at hv; cases hv
    | some l =>
      rw [hl] at hv
      simp only [Option.some.injEq] at hv; subst hv
      simp only [ARel] at h
      obtain ⟨us, rfl, h2⟩ := h
      simp only [Rel]
      exact ⟨us, rfl, view1L_rel hr cs l _ hl h2⟩
  | _ => exact view1_rel (by simpa only [St.view] using hv) hr h

theorem viewL_rel {η : Nat → Value} {φ : Nat → List Nat} {a : Act} {w : World} (hr : RepE fr η φ st a w) : ∀ (cs : List AV) (l : List PV) (us : List Value), st.viewL cs = some l → ARelL η (SOf φ st.hp) w cs us → RelL (fun _ => False) w l us
  | [], l, us, hv, h => by simp only [St.viewL, Option.some.injEq] at hv; subst hv; simpa [ARelL, RelL] using h
  | c :: cs, l, us, hv, h => by
    simp only [St.viewL] at hv
    cases hc : st.view c with
    | none => rw [hc] at hv; cases hv
    | some x =>
      rw [hc] at hv
      simp only at hv
      cases hl : st.viewL cs with
      | none => rw [hl] at hv; cases hv
      | some l' =>
        rw [hl] at hv
        simp only [Option.some.injEq] at hv; subst hv
        simp only [ARelL] at h
        obtain ⟨u, us', rfl, h2, h3⟩ := h
        simp only [RelL]
        exact ⟨u, us', rfl, view_rel hc hr h2, viewL_rel hr cs l' us' hl h3⟩

/-! Operands, many at once; what a called value is. -/
def St.evL (st : St) : List Operand → Option (List AV)
  | [] => some []
  | x :: l => match st.ev x with
    | some a => match st.evL l with
      | some r => some (a :: r)
      | none => none
    | none => none
theorem evL_rel {η : Nat → Value} {φ : Nat → List Nat} {a : Act} {w : World} (hr : RepE fr η φ st a w) : ∀ (l : List Operand) (avs : List AV), st.evL l = some avs → ARelL η (SOf φ st.hp) w avs (l.map a.eval)
  | [], avs, h => by simp only [St.evL, Option.some.injEq] at h; subst h; simp [ARelL]
  | x :: l, avs, h => by
    simp only [St.evL] at h
    cases hx : st.ev x with
    | none => rw [hx] at h; cases h
    | some av =>
      rw [hx] at h
      simp only at h
      cases hl : st.evL l with
      | none => rw [hl] at h; cases h
      | some r =>
        rw [hl] at h
        simp only [Option.some.injEq] at h; subst h
        simp only [List.map_cons, ARelL]
        exact ⟨_, _, rfl, hr.ev hx, evL_rel hr l r hl⟩

def AV.fn : AV → Option (FuncId × List AV)
  | .p (.clo f l) => some (f, l.map .p)
  | .clo f l => some (f, l)
  | _ => none
theorem fn_rel {av : AV} {f : FuncId} {caps : List AV} (hf : av.fn = some (f, caps)) {η : Nat → Value} {S : Nat → Prop} {w : World} {u : Value} (h : ARel η S w av u) :
    ∃ us, u = .func (.func f) #[] us ∧ ARelL η S w caps us.toList := by
  cases av with
  | clo g l =>
    simp only [AV.fn, Option.some.injEq, Prod.mk.injEq] at hf
    obtain ⟨rfl, rfl⟩ := hf
    simpa only [ARel] using h
  | p x =>
    cases x with
    | clo g l =>
      simp only [AV.fn, Option.some.injEq, Prod.mk.injEq] at hf
      obtain ⟨rfl, rfl⟩ := hf
      simp only [ARel, Rel] at h
      obtain ⟨us, h1, h2⟩ := h
      exact ⟨us, h1, relL_map l us.toList h2⟩
    | _ => cases hf
  | _ => cases hf

/-- That a function is called by entering it. -/
def Enters (P : Program) (f : FuncId) : Prop := ∀ (args : Array Value) (w : World), (callFunc f args).run P w = .ok (.enter f args) w

variable {d : Option Tmp} {t : TypeId} {pos : String} {aft : Array Edge} {g : Option (Nat × Bool)}

theorem exec_call {A : Act} {x : Operand} {args : List Operand} {argTypes : Array TypeId} {f : FuncId} {us : Array Value} (hf : Enters P f) (hx : A.eval x = .func (.func f) #[] us) (w : World) :
    (execOp A.eval ⟨d, .call { callee := .value x, args := args.toArray, argTypes := argTypes }, t, pos, aft, g⟩).run P w = .ok (.enter f ((args.map A.eval) ++ us.toList).toArray) w := by
  have e : args.toArray.map A.eval = (args.map A.eval).toArray := by simp
  have e2 : (args.map A.eval).toArray ++ us = ((args.map A.eval) ++ us.toList).toArray := by simp
  simp only [execOp, resolve, hx, e, Deferred.ofValue, Sem.run_bind, Sem.run_pure, Result.andThen_ok, invoke, Array.empty_append, e2]
  exact hf _ _

/-- A call of a function that only reads, with a result that holds no address. -/
theorem Yld.call {x : Operand} {args : List Operand} {argTypes : Array TypeId} {f : FuncId} {cv : AV} {avs caps : List AV} {pvl pvl2 : List PV} {r : PV} {c : Value} (hx : st.ev x = some cv) (hcv : cv.fn = some (f, caps)) (hf : Enters P f)
    (ha : st.evL args = some avs) (hv : st.viewL avs = some pvl) (hv2 : st.viewL caps = some pvl2) (hp : Pure P f (pvl ++ pvl2) r) (hc : conc r = some c) :
    Yld P fr ⟨d, .call { callee := .value x, args := args.toArray, argTypes := argTypes }, t, pos, aft, g⟩ st (.p r) := by
  intro η φ a w hr
  refine ⟨c, fun w' hw' => ?_, by simp only [ARel]; exact (conc_spec r c hc c).2 rfl⟩
  obtain ⟨us, e1, e2⟩ := fn_rel hcv (hr.ev hx)
  unfold Oper.quietAt
  rw [exec_call hf e1]
  refine ⟨rfl, ?_⟩
  have hr' := hr.below hw'
  have h1 := viewL_rel hr' avs pvl _ hv (evL_rel hr' args avs ha)
  have e2' : ARelL η (SOf φ st.hp) w' caps us.toList := ARelL.mono (Same.of_below hw') (fun _ _ h => h) _ _ (fun _ _ => rfl) e2
  have h2 := viewL_rel hr' caps pvl2 _ hv2 e2'
  have hh := hp w' _ (relL_append _ _ _ _ h1 h2)
  refine hh.mono fun e w'' ⟨u, g1, g2, g3⟩ => ?_
  rw [conc_spec r c hc] at g2
  subst g2
  exact ⟨g1, hw'.trans (g3.mono hw'.size)⟩

end

/-! Contracts of functions that own something, or hand something new back. -/
structure HpOk (η : Nat → Value) (φ : Nat → List Nat) (hp : List (Nat × Res)) (w : World) : Prop where
  res : ∀ id r, get hp id = some r → RRes η (SOf φ hp) w (η id) (φ id) r
  disj : ∀ id id' r r' k, get hp id = some r → get hp id' = some r' → k ∈ φ id → k ∈ φ id' → id = id'
  lt : ∀ id r k, get hp id = some r → k ∈ φ id → k < w.heap.size

/-- A function that is handed things of one's own ('hi') and hands things back ('ho'); 'kp': whose handles stay. -/
def Fn (P : Program) (f : FuncId) (args : List AV) (hi : List (Nat × Res)) (kp : List Nat) (r : AV) (ho : List (Nat × Res)) : Prop :=
  ∀ η φ w (us : List Value), HpOk η φ hi w → ARelL η (SOf φ hi) w args us →
    Calls P f us.toArray w fun e w' => ∃ u η' φ', e = .returned u ∧ HpOk η' φ' ho w' ∧ ARel η' (SOf φ' ho) w' r u ∧ (∀ i, i ∈ kp → η' i = η i) ∧
      (∀ i r k, get ho i = some r → k ∈ φ' i → SOf φ hi k ∨ w.heap.size ≤ k) ∧ Keep (SOf φ hi) w w'

end Go.V
