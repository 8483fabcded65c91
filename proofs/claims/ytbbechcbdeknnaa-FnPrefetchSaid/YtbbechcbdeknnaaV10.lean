/- The calculus' rules: a slice that a function makes and hands back. -/
import Derived.Test.YtbbechcbdeknnaaV8
set_option linter.all false
namespace Go.V
open Go Go.RowKit

/-- A function that only reads and hands back a slice of its own make, named 0 in the result. -/
def Mk (P : Program) (f : FuncId) (args : List PV) (r : AV) (ty : TypeId) (rs : Nat) (rows : List (List PV)) : Prop :=
  ∀ (w : World) (us : List Value), RelL (fun _ => False) w args us →
    Calls P f us.toArray w fun e w' => ∃ u hd F, e = .returned u ∧ RRes (fun _ => hd) (fun k => k ∈ F) w' hd F (.vec ty rs rows) ∧ ARel (fun _ => hd) (fun k => k ∈ F) w' r u ∧
      (∀ k ∈ F, w.heap.size ≤ k ∧ k < w'.heap.size) ∧ Below w.heap.size w w'

mutual
def AV.ren (id : Nat) : AV → AV
  | .h _ => .h id
  | .el _ rs row off => .el id rs row off
  | .agg cs => .agg (AV.renL id cs)
  | .tup cs => .tup (AV.renL id cs)
  | .clo f cs => .clo f (AV.renL id cs)
  | a => a
def AV.renL (id : Nat) : List AV → List AV
  | [] => []
  | c :: cs => c.ren id :: AV.renL id cs
end

mutual
def AV.Flat : AV → Prop
  | .p x => x.Flat
  | .agg cs => AV.FlatL cs
  | .tup cs => AV.FlatL cs
  | .clo _ cs => AV.FlatL cs
  | _ => True
def AV.FlatL : List AV → Prop
  | [] => True
  | c :: cs => c.Flat ∧ AV.FlatL cs
end

section
variable {η : Nat → Value} {S S' : Nat → Prop} {w w' : World} {hd : Value} {id : Nat}
mutual
theorem ARel.ren (hη : η id = hd) : ∀ (a : AV) (u : Value), a.Flat → ARel (fun _ => hd) S w a u → ARel η S' w' (a.ren id) u
  | .p x, u, hf, h => by simp only [ARel, AV.ren, AV.Flat] at h hf ⊢; exact Rel.flat x u hf h
  | .h i, u, _, h => by simp only [ARel, AV.ren] at h ⊢; rw [hη]; exact h
  | .el i rs row off, u, _, h => by simp only [ARel, AV.ren] at h ⊢; rw [hη]; exact h
  | .agg cs, u, hf, h => by
    simp only [ARel, AV.ren, AV.Flat] at h hf ⊢
    obtain ⟨us, h1, h2⟩ := h
    exact ⟨us, h1, ARelL.ren hη cs us.toList hf h2⟩
  | .tup cs, u, hf, h => by
    simp only [ARel, AV.ren, AV.Flat] at h hf ⊢
    obtain ⟨us, h1, h2⟩ := h
    exact ⟨us, h1, ARelL.ren hη cs us.toList hf h2⟩
  | .clo f cs, u, hf, h => by
    simp only [ARel, AV.ren, AV.Flat] at h hf ⊢
    obtain ⟨us, h1, h2⟩ := h
    exact ⟨us, h1, ARelL.ren hη cs us.toList hf h2⟩
  | .junk, _, _, _ => by simp only [ARel, AV.ren]
theorem ARelL.ren (hη : η id = hd) : ∀ (cs : List AV) (us : List Value), AV.FlatL cs → ARelL (fun _ => hd) S w cs us → ARelL η S' w' (AV.renL id cs) us
  | [], _, _, h => by simpa only [ARelL, AV.renL] using h
  | c :: cs, us, hf, h => by
    simp only [ARelL, AV.renL, AV.FlatL] at h hf ⊢
    obtain ⟨u, us', h1, h2, h3⟩ := h
    exact ⟨u, us', h1, ARel.ren hη c u hf.1 h2, ARelL.ren hη cs us' hf.2 h3⟩
end

theorem flatten_flat : ∀ {rows : List (List PV)}, (∀ r ∈ rows, PV.FlatL r) → PV.FlatL rows.flatten
  | [], _ => by simp [PV.FlatL]
  | r :: rows, h => by
    have app : ∀ (a b : List PV), PV.FlatL a → PV.FlatL b → PV.FlatL (a ++ b) := by
      intro a
      induction a with
      | nil => intro b _ h; exact h
      | cons c a ih => intro b h1 h2; simp only [List.cons_append, PV.FlatL] at h1 ⊢; exact ⟨h1.1, ih b h1.2 h2⟩
    rw [List.flatten_cons]
    exact app _ _ (h r (by simp)) (flatten_flat (fun q hq => h q (by simp [hq])))

theorem vec_flat {η η' : Nat → Value} {F : List Nat} {ty rs : Nat} {rows : List (List PV)} (hf : ∀ r ∈ rows, PV.FlatL r) (h : RRes η S w hd F (.vec ty rs rows)) : RRes η' S' w hd F (.vec ty rs rows) := by
  obtain ⟨xs, h1, h2, h3, h4⟩ := h
  exact ⟨xs, RelL.flat _ _ (flatten_flat hf) h1, h2, h3, h4⟩
end

section
variable {P : Program} {fr : Fr} {st : St} {ops : Array Oper} {rest : List Oper} {k : List It}
variable {d : Nat} {t : TypeId} {pos : String} {aft : Array Edge}

/-- A call of such a function. -/
theorem AO.callMk (id : Nat) {x : Operand} {args : List Operand} {argTypes : Array TypeId} {f : FuncId} {cv : AV} {avs caps : List AV} {pvl pvl2 : List PV} {r : AV} {ty rs : Nat} {rows : List (List PV)} (hx : st.ev x = some cv) (hcv : cv.fn = some (f, caps)) (hf : Enters P f)
    (ha : st.evL args = some avs) (hv : st.viewL avs = some pvl) (hv2 : st.viewL caps = some pvl2) (hp : Mk P f (pvl ++ pvl2) r ty rs rows) (hfl : r.Flat) (hrows : ∀ r ∈ rows, PV.FlatL r)
    (hfr : st.fresh id = true) (hlt : Nat.blt d fr.nt = true)
    (hk : AO P fr ops rest k false ⟨(d, r.ren id) :: st.tm, (id, .vec ty rs rows) :: st.hp⟩) (hpin : get fr.pin id = none := by rfl) :
    AO P fr ops (⟨some d, .call { callee := .value x, args := args.toArray, argTypes := argTypes }, t, pos, aft, none⟩ :: rest) k false st := by
  intro a w ⟨η, φ, hr⟩
  obtain ⟨us, e1, e2⟩ := fn_rel hcv (hr.ev hx)
  unfold wpList
  rw [if_pos (by exact wanted_none rfl _)]
  refine .inl ?_
  unfold Oper.wp
  rw [exec_call hf e1]
  simp only [Oper.upon]
  have h1 := viewL_rel hr avs pvl _ hv (evL_rel hr args avs ha)
  have h2 := viewL_rel hr caps pvl2 _ hv2 e2
  refine (hp w _ (relL_append _ _ _ _ h1 h2)).mono fun e w' ⟨u, hd, F, g1, g2, g3, g4, g5⟩ => ?_
  subst g1
  simp only
  have hadd := hr.add g5 id hfr (.vec ty rs rows) hd F g4 (vec_flat hrows g2) hpin
  refine hk _ _ ⟨_, _, hadd.put hlt (av := r.ren id) ?_⟩
  exact ARel.ren (by rw [upd_self]) r u hfl g3

/-- A nil slice in a slot is a slice of one's own, of no elements. -/
theorem RepE.nilVec {η : Nat → Value} {φ : Nat → List Nat} {a : Act} {w : World} (hr : RepE fr η φ st a w) (d id : Nat) (ty rs : Nat) (hg : get st.tm d = some (.p (.v (.slice none 0 0)))) (hfr : st.fresh id = true) (hpin : get fr.pin id = none := by rfl) :
    Rep fr ⟨(d, .h id) :: st.tm, (id, .vec ty rs []) :: st.hp⟩ a w := by
  have hadd := hr.add (Below.refl _ _) id hfr (.vec ty rs []) (.slice none 0 0) [] (by simp) ⟨[], by simp [RelL], by simp, World.ownsRow_nil w 0 ty rs, rfl⟩ hpin
  refine ⟨_, _, hadd.defers, hadd.size, ?_, hadd.res, hadd.disj, hadd.low, hadd.lt, hadd.keep, hadd.pin⟩
  intro i av h
  simp only [get_cons] at h
  split at h
  · next e =>
    subst e
    obtain rfl := Option.some.inj h
    obtain ⟨u, e1, e2⟩ := hr.slots _ _ hg
    simp only [ARel, Rel] at e2
    exact ⟨u, e1, by simp only [ARel]; rw [upd_self]; exact e2⟩
  · exact hadd.slots i av h
theorem AC.nilVec (d id : Nat) (ty rs : Nat) (hg : get st.tm d = some (.p (.v (.slice none 0 0)))) (hfr : st.fresh id = true) (hk : AC P fr k ⟨(d, .h id) :: st.tm, (id, .vec ty rs []) :: st.hp⟩) (hpin : get fr.pin id = none := by rfl) : AC P fr k st :=
  fun a w ⟨_, _, hr⟩ => hk a w (hr.nilVec d id ty rs hg hfr hpin)
theorem AO.nilVec (d id : Nat) (ty rs : Nat) (hg : get st.tm d = some (.p (.v (.slice none 0 0)))) (hfr : st.fresh id = true) (hk : AO P fr ops rest k false ⟨(d, .h id) :: st.tm, (id, .vec ty rs []) :: st.hp⟩) (hpin : get fr.pin id = none := by rfl) : AO P fr ops rest k false st :=
  fun a w ⟨_, _, hr⟩ => hk a w (hr.nilVec d id ty rs hg hfr hpin)

/-! The proof of such a contract. -/
def MQ (P : Program) (fn : Func) (w : World) (r : AV) (ty rs : Nat) (rows : List (List PV)) : Exit → Act → World → Prop :=
  bodyPost P fn fun e w' => ∃ u hd F, e = .returned u ∧ RRes (fun _ => hd) (fun k => k ∈ F) w' hd F (.vec ty rs rows) ∧ ARel (fun _ => hd) (fun k => k ∈ F) w' r u ∧
      (∀ k ∈ F, w.heap.size ≤ k ∧ k < w'.heap.size) ∧ Below w.heap.size w w'
def MFr (P : Program) (fn : Func) (nt : Nat) (w : World) (r : AV) (ty rs : Nat) (rows : List (List PV)) : Fr := ⟨w, fun _ => False, nt, MQ P fn w r ty rs rows, []⟩

theorem ent_rep {fr : Fr} {us : List Value} {args : List PV} {tm : List (Nat × AV)} {nt ntmps : Nat} {w : World} (hfr : fr.w0 = w) (hS0 : fr.S0 = fun _ => False) (hn : fr.nt = nt) (hpn : fr.pin = []) (hnt : ntmps = nt) (hle : Nat.ble args.length nt = true)
    (hrel : RelL (fun _ => False) w args us) (he : ent 0 args = tm) : Rep fr ⟨tm, []⟩ { tmps := us.toArray ++ Array.replicate (ntmps - us.toArray.size) undef, defers := [] } w := by
  have hl := relL_length args us hrel
  have hn' := Nat.le_of_ble_eq_true hle
  refine ⟨fun _ => undef, fun _ => [], rfl, ?_, ?_, ?_, ?_, ?_, ?_, ?_, ?_⟩
  · simp only [Array.size_append, List.size_toArray, Array.size_replicate, hnt, hl, hn]; omega
  · intro i av hg
    rw [← he] at hg
    obtain ⟨x, _, h2, rfl⟩ := ent_get 0 args i av hg
    obtain ⟨u, h3, h4⟩ := relL_getElem args us i x hrel (by simpa using h2)
    refine ⟨u, ?_, by simp only [ARel]; exact Rel.mono ⟨Nat.le_refl _, fun _ _ _ => rfl⟩ (fun k _ ⟨_, _, hg, _⟩ => by cases hg) x u h4⟩
    have hi : i < us.length := (List.getElem?_eq_some_iff.1 h3).1
    rw [Array.getElem?_append_left (by simpa using hi)]
    simpa using h3
  · intro id r hg; cases hg
  · intro id _ r _ _ hg; cases hg
  · intro id r _ hg; cases hg
  · intro id r _ hg; cases hg
  · rw [hfr, hS0]; exact Keep.refl _ _
  · rw [hpn]; intro _ _ h; cases h

theorem Mk.intro {f : FuncId} {fn : Func} {c : Code} {nt : Nat} {args : List PV} {r : AV} {ty rs : Nat} {rows : List (List PV)} {tm : List (Nat × AV)} (hf : P.funcs[f]? = some fn) (hb : fn.body = some c) (hnt : fn.ntmps = nt) (hn : Nat.ble args.length nt = true)
    (he : ent 0 args = tm) (h : ∀ w, AC P (MFr P fn nt w r ty rs rows) [.code c] ⟨tm, []⟩) : Mk P f args r ty rs rows := by
  intro w us hrel
  exact calls_of_wp hf hb (h w _ _ (ent_rep (fr := MFr P fn nt w r ty rs rows) rfl rfl rfl rfl hnt hn hrel he))

mutual
def AV.only (id : Nat) : AV → Bool
  | .h i => Nat.beq i id
  | .el i _ _ _ => Nat.beq i id
  | .agg cs => AV.onlyL id cs
  | .tup cs => AV.onlyL id cs
  | .clo _ cs => AV.onlyL id cs
  | _ => true
def AV.onlyL (id : Nat) : List AV → Bool
  | [] => true
  | c :: cs => match c.only id with
    | true => AV.onlyL id cs
    | false => false
end
mutual
theorem ARel.unren {η : Nat → Value} {S S' : Nat → Prop} {w : World} {id : Nat} (hS : ∀ k, S' k → S k) : ∀ (a : AV) (u : Value), ARel η S w (a.ren id) u → ARel (fun _ => η id) S' w a u
  | .p x, u, h => by simp only [ARel, AV.ren] at h ⊢; exact Rel.mono ⟨Nat.le_refl _, fun _ _ _ => rfl⟩ (fun k _ h => hS k h) x u h
  | .h i, u, h => by simp only [ARel, AV.ren] at h ⊢; exact h
  | .el i rs row off, u, h => by simp only [ARel, AV.ren] at h ⊢; exact h
  | .agg cs, u, h => by
    simp only [ARel, AV.ren] at h ⊢
    obtain ⟨us, h1, h2⟩ := h
    exact ⟨us, h1, ARelL.unren hS cs us.toList h2⟩
  | .tup cs, u, h => by
    simp only [ARel, AV.ren] at h ⊢
    obtain ⟨us, h1, h2⟩ := h
    exact ⟨us, h1, ARelL.unren hS cs us.toList h2⟩
  | .clo f cs, u, h => by
    simp only [ARel, AV.ren] at h ⊢
    obtain ⟨us, h1, h2⟩ := h
    exact ⟨us, h1, ARelL.unren hS cs us.toList h2⟩
  | .junk, _, _ => by simp only [ARel]
theorem ARelL.unren {η : Nat → Value} {S S' : Nat → Prop} {w : World} {id : Nat} (hS : ∀ k, S' k → S k) : ∀ (cs : List AV) (us : List Value), ARelL η S w (AV.renL id cs) us → ARelL (fun _ => η id) S' w cs us
  | [], _, h => by simpa only [ARelL, AV.renL] using h
  | c :: cs, us, h => by
    simp only [ARelL, AV.renL] at h ⊢
    obtain ⟨u, us', h1, h2, h3⟩ := h
    exact ⟨u, us', h1, ARel.unren hS c u h2, ARelL.unren hS cs us' h3⟩
end

theorem MQ_of {fn : Func} {nt : Nat} {w0 : World} {r : AV} {ty rs : Nat} {rows rows' : List (List PV)} (id : Nat) {avs : List AV} (h : RVs P st fn.results.toList avs) (hv : final avs = r.ren id) (hg : get st.hp id = some (.vec ty rs rows')) (he : rows' = rows)
    {a : Act} {w : World} (hr : Rep (MFr P fn nt w0 r ty rs rows) st a w) : bodyPost P fn (fun e w' => ∃ u hd F, e = .returned u ∧ RRes (fun _ => hd) (fun k => k ∈ F) w' hd F (.vec ty rs rows) ∧ ARel (fun _ => hd) (fun k => k ∈ F) w' r u ∧
      (∀ k ∈ F, w0.heap.size ≤ k ∧ k < w'.heap.size) ∧ Below w0.heap.size w0 w') .ret a w := by
  obtain ⟨η, φ, hr⟩ := hr
  subst he
  obtain ⟨u, e1, e2⟩ := results_run h hr
  rw [hv] at e2
  have hS : ∀ k, k ∈ φ id → SOf φ st.hp k := fun k hk => ⟨id, _, hg, hk⟩
  refine ⟨hr.defers, u, e1, u, η id, φ id, rfl, ?_, ARel.unren hS r u e2, fun k hk => ⟨?_, hr.lt id _ k hg hk⟩, Keep.toBelow hr.keep⟩
  · exact RRes.mono ⟨Nat.le_refl _, fun _ _ _ => rfl⟩ (fun k _ h => hS k h) (fun _ _ => rfl) _ (fun i hi => by simp [Res.names] at hi) (hr.res id _ hg)
  · rcases hr.low id _ k hg hk with h | h
    · exact h
    · exact h.elim

theorem Mk.ret {fn : Func} {nt : Nat} {w0 : World} {r : AV} {ty rs : Nat} {rows rows' : List (List PV)} (id : Nat) {l : List ResultVar} {avs : List AV} (hl : fn.results = l.toArray) (h : RVs P st l avs) (hv : final avs = r.ren id) (hg : get st.hp id = some (.vec ty rs rows')) (he : rows' = rows) :
    AC P (MFr P fn nt w0 r ty rs rows) (.code .ret :: k) st := by
  intro a w hr
  refine wp_ret ?_
  rw [cont_ret]
  exact MQ_of id (by rw [hl]; simpa using h) hv hg he hr

end
end Go.V
