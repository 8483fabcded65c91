/- The calculus' rules: the call of such a function, and the proof of such a contract. -/
import Derived.Test.YtbbechcbdeknnaaV13
set_option linter.all false
namespace Go.V
open Go Go.RowKit

/-! Things without addresses. -/
def Res.Flat : Res → Prop
  | .box _ cs => AV.FlatL cs
  | .vec _ _ rows => ∀ r ∈ rows, PV.FlatL r
  | .cust _ => False
def FlatH : List (Nat × Res) → Prop
  | [] => True
  | (_, r) :: l => r.Flat ∧ FlatH l
theorem FlatH.spec : ∀ {l : List (Nat × Res)}, FlatH l → ∀ i r, get l i = some r → r.Flat
  | [], _, _, _, h => by cases h
  | (j, r0) :: l, hf, i, r, h => by
    rw [get_cons] at h
    split at h
    · obtain rfl := Option.some.inj h; exact hf.1
    · exact hf.2.spec i r h
mutual
theorem ARel.flat {η : Nat → Value} {S S' : Nat → Prop} {w : World} : ∀ (a : AV) (u : Value), a.Flat → ARel η S w a u → ARel η S' w a u
  | .p x, u, hf, h => by simp only [ARel, AV.Flat] at h hf ⊢; exact Rel.flat x u hf h
  | .h i, u, _, h => by simpa only [ARel] using h
  | .el i rs row off, u, _, h => by simpa only [ARel] using h
  | .agg cs, u, hf, h => by
    simp only [ARel, AV.Flat] at h hf ⊢
    obtain ⟨us, h1, h2⟩ := h
    exact ⟨us, h1, ARelL.flat cs us.toList hf h2⟩
  | .tup cs, u, hf, h => by
    simp only [ARel, AV.Flat] at h hf ⊢
    obtain ⟨us, h1, h2⟩ := h
    exact ⟨us, h1, ARelL.flat cs us.toList hf h2⟩
  | .clo f cs, u, hf, h => by
    simp only [ARel, AV.Flat] at h hf ⊢
    obtain ⟨us, h1, h2⟩ := h
    exact ⟨us, h1, ARelL.flat cs us.toList hf h2⟩
  | .junk, _, _, _ => by simp only [ARel]
theorem ARelL.flat {η : Nat → Value} {S S' : Nat → Prop} {w : World} : ∀ (cs : List AV) (us : List Value), AV.FlatL cs → ARelL η S w cs us → ARelL η S' w cs us
  | [], _, _, h => by simpa only [ARelL] using h
  | c :: cs, us, hf, h => by
    simp only [ARelL, AV.FlatL] at h hf ⊢
    obtain ⟨u, us', h1, h2, h3⟩ := h
    exact ⟨u, us', h1, ARel.flat c u hf.1 h2, ARelL.flat cs us' hf.2 h3⟩
end
theorem RRes.flat {η : Nat → Value} {S S' : Nat → Prop} {w : World} {hd : Value} {F : List Nat} {r : Res} (hf : r.Flat) (h : RRes η S w hd F r) : RRes η S' w hd F r := by
  cases r with
  | box ty cs =>
    obtain ⟨b, arr, h1, h2, h3, h4⟩ := h
    exact ⟨b, arr, h1, h2, h3, ARelL.flat cs _ hf h4⟩
  | vec ty rs rows => exact vec_flat hf h
  | cust C => exact hf.elim

def sg (σ : List Nat) (i : Nat) : Nat := match Nat.beq i 900 with
  | true => 900
  | false => rn σ i

section
variable {P : Program} {fr : Fr} {st : St}

theorem names_in {l : List Nat} {a : AV} (h : a.inB l = true) (hn : l.contains 900 = false) : a.names 900 = false := by
  cases hc : a.names 900 with
  | false => rfl
  | true => have := AV.inB_spec a h hc; simp_all

/-- What a contract of that kind says at a call. -/
theorem FnE.use {α : Type} {f : FuncId} {cargs : List AV} {hi : List (Nat × Res)} {kp : List Nat} {R : α → Prop} {r : α → AV} {ho : α → List (Nat × Res)} (hp : FnE P f cargs hi kp R r ho)
    {η : Nat → Value} {φ : Nat → List Nat} {a : Act} {w : World} (hr : RepE fr η φ st a w) {ρ : Nat → Nat} {his hos : List Nat} (hhis : hi.map (·.1) = his) (hhos : ∀ x, (ho x).map (·.1) = hos) (hh : HasH st.hp ρ hi) 
    (hnd : nodupB (his.map ρ) = true) (h9 : his.contains 900 = false) (h9o : hos.contains 900 = false) (hini : inBH his hi = true) (hinc : AV.inBL his cargs = true) (hkp : kp.contains 900 = false) (F0 : List Nat) (hF0 : ∀ k ∈ F0, st.Oth φ (his.map ρ) k) {us : List Value}
    (hargs : ARelL (fun i => η (ρ i)) (fun k => SOf (fun i => φ (ρ i)) hi k ∨ k ∈ F0) w cargs us) :
    Calls P f us.toArray w fun e w' => ∃ x, R x ∧ ∃ u η' φ', e = .returned u ∧ HpOk η' φ' (ho x) w' ∧ ARel η' (fun k => SOf φ' (ho x) k ∨ k ∈ F0) w' (r x) u ∧
      (∀ i q, get (ho x) i = some q → RRes η' (fun k => SOf φ' (ho x) k ∨ k ∈ F0) w' (η' i) (φ' i) q) ∧ (∀ i, i ∈ kp → η' i = η (ρ i)) ∧
      (∀ i q k, get (ho x) i = some q → k ∈ φ' i → SOf (fun i => φ (ρ i)) hi k ∨ w.heap.size ≤ k) ∧ Keep (SOf (fun i => φ (ρ i)) hi) w w' := by
  have hinj := inj_of_nodup (nodupB_spec hnd)
  have hiMem : ∀ i q, get hi i = some q → i ∈ his := fun i q h => by rw [← hhis]; exact List.mem_map.2 ⟨(i, q), mem_of_get h, rfl⟩
  have n9 : ∀ i ∈ his, i ≠ 900 := fun i h e => by subst e; simp_all
  have hg9 : get hi 900 = none := by
    cases hg : get hi 900 with
    | none => rfl
    | some q => exact absurd rfl (n9 900 (hiMem _ _ hg))
  have hiniS := inBH_spec hini
  -- the set of the call
  have hSc : ∀ k, SOf (upd (fun i => φ (ρ i)) 900 F0) ((900, .cust (extC w F0)) :: hi) k → SOf (fun i => φ (ρ i)) hi k ∨ k ∈ F0 := by
    rintro k ⟨i, q, hg, hm⟩
    rw [get_cons] at hg
    split at hg
    · next e => subst e; rw [upd_self] at hm; exact .inr hm
    · next e => rw [upd_ne _ _ (fun h => e h.symm)] at hm; exact .inl ⟨i, q, hg, hm⟩
  have hSall : ∀ k, SOf (fun i => φ (ρ i)) hi k ∨ k ∈ F0 → SOf φ st.hp k := by
    rintro k (⟨i, q, hg, hm⟩ | h)
    · exact ⟨ρ i, _, hh.spec i q hg, hm⟩
    · obtain ⟨j, q, h1, _, h2⟩ := hF0 k h; exact ⟨j, q, h1, h2⟩
  have hw : ∀ {S}, Same S w w := ⟨Nat.le_refl _, fun _ _ _ => rfl⟩
  have hcall := hp w F0 (upd (fun i => η (ρ i)) 900 (.pointer none)) (upd (fun i => φ (ρ i)) 900 F0) w us ⟨?_, ?_, ?_⟩ ?_
  · refine hcall.mono fun e w' ⟨x, hR, u, η', φ', e1, hok, hrel, hkeepη, hblk, hkeep⟩ => ?_
    have hoMem : ∀ i q, get (ho x) i = some q → i ∈ hos := fun i q h => by rw [← hhos x]; exact List.mem_map.2 ⟨(i, q), mem_of_get h, rfl⟩
    have n9o : ∀ i q, get (ho x) i = some q → i ≠ 900 := fun i q h e => by have := hoMem i q h; subst e; simp_all
    have hgo : ∀ i q, get (ho x) i = some q → get ((900, Res.cust (extC w F0)) :: ho x) i = some q := fun i q h => by rw [get_cons, if_neg (fun e => n9o i q h e.symm)]; exact h
    obtain ⟨_, hφ9, hblk9⟩ := hok.res 900 (.cust (extC w F0)) (by rw [get_cons, if_pos rfl])
    have hS' : ∀ k, SOf φ' (ho x) k ∨ k ∈ F0 → SOf φ' ((900, .cust (extC w F0)) :: ho x) k := by
      rintro k (⟨i, q, hg, hm⟩ | h)
      · exact ⟨i, q, hgo i q hg, hm⟩
      · exact ⟨900, _, by rw [get_cons, if_pos rfl], by rw [hφ9]; exact h⟩
    have hw' : ∀ {S}, Same S w' w' := ⟨Nat.le_refl _, fun _ _ _ => rfl⟩
    refine ⟨x, hR, u, η', φ', e1, ⟨?_, ?_, ?_⟩, ?_, ?_, ?_, ?_, ?_⟩
    · intro i q hg
      exact RRes.mono hw' (fun k _ h => hS' k (.inl h)) (fun _ _ => rfl) q (fun _ _ => rfl) (hok.res i q (hgo i q hg))
    · intro i j q q' k h1 h2; exact hok.disj i j q q' k (hgo i q h1) (hgo j q' h2)
    · intro i q k h1; exact hok.lt i q k (hgo i q h1)
    · exact ARel.mono hw' (fun k _ h => hS' k h) _ _ (fun _ _ => rfl) hrel
    · intro i q hg
      exact RRes.mono hw' (fun k _ h => hS' k h) (fun _ _ => rfl) q (fun _ _ => rfl) (hok.res i q (hgo i q hg))
    · intro i hi'
      rw [hkeepη i hi', upd_ne _ _ (fun e => by subst e; simp_all)]
    · intro i q k hg hm
      rcases hblk i q k (hgo i q hg) hm with h | h
      · rcases hSc k h with h | h
        · exact .inl h
        · exfalso
          exact n9o i q hg (hok.disj i 900 q _ k (hgo i q hg) (by rw [get_cons, if_pos rfl]) hm (by rw [hφ9]; exact h))
      · exact .inr h
    · refine ⟨hkeep.os, hkeep.tape, hkeep.output, hkeep.size, fun k hk hs => ?_⟩
      by_cases hkF : k ∈ F0
      · exact hblk9 k (by rw [hφ9]; exact hkF)
      · refine hkeep.block k hk (fun h => ?_)
        rcases hSc k h with h | h
        · exact hs h
        · exact hkF h
  · intro i q hg
    rw [get_cons] at hg
    split at hg
    · next e =>
      subst e; obtain rfl := Option.some.inj hg
      rw [upd_self, upd_self]
      exact ⟨rfl, rfl, fun _ _ => rfl⟩
    · next e =>
      rw [upd_ne _ _ (fun h => e h.symm), upd_ne _ _ (fun h => e h.symm)]
      have h1 := hr.res (ρ i) _ (hh.spec i q hg)
      have h2 := (RRes.rnm (η := η) (ρ := ρ) q).2 h1
      refine RRes.mono hw (fun k _ h => hSall k (hSc k h)) (fun _ _ => rfl) q (fun j hj => ?_) h2
      exact upd_ne _ _ (n9 j ((hiniS i q hg).2 j hj))
  · intro i j q q' k h1 h2 h3 h4
    rw [get_cons] at h1 h2
    split at h1
    · next e =>
      split at h2
      · next e2 => rw [← e, ← e2]
      · next e2 =>
        subst e
        rw [upd_self] at h3
        rw [upd_ne _ _ (fun h => e2 h.symm)] at h4
        obtain ⟨j', q1, f1, f2, f3⟩ := hF0 k h3
        have := hr.disj _ _ _ _ k f1 (hh.spec j q' h2) f3 h4
        exact absurd (List.mem_map.2 ⟨j, hiMem j q' h2, this.symm⟩) f2
    · next e =>
      rw [upd_ne _ _ (fun h => e h.symm)] at h3
      split at h2
      · next e2 =>
        subst e2
        rw [upd_self] at h4
        obtain ⟨j', q1, f1, f2, f3⟩ := hF0 k h4
        have := hr.disj _ _ _ _ k f1 (hh.spec i q h1) f3 h3
        exact absurd (List.mem_map.2 ⟨i, hiMem i q h1, this.symm⟩) f2
      · next e2 =>
        rw [upd_ne _ _ (fun h => e2 h.symm)] at h4
        exact hinj i (hiMem i q h1) j (hiMem j q' h2) (hr.disj _ _ _ _ k (hh.spec i q h1) (hh.spec j q' h2) h3 h4)
  · intro i q k h1 h3
    rw [get_cons] at h1
    split at h1
    · next e =>
      subst e
      rw [upd_self] at h3
      obtain ⟨j', q1, f1, f2, f3⟩ := hF0 k h3
      exact hr.lt _ _ k f1 f3
    · next e =>
      rw [upd_ne _ _ (fun h => e h.symm)] at h3
      exact hr.lt _ _ k (hh.spec i q h1) h3
  · refine ARelL.mono hw (fun k _ h => hSc k h) _ _ (fun i hi' => ?_) hargs
    exact upd_ne _ _ (n9 i (AV.inBL_spec _ hinc hi'))

variable {ops : Array Oper} {rest : List Oper} {k : List It}
variable {d : Option Nat} {t : TypeId} {pos : String} {aft : Array Edge} {g : Option (Nat × Bool)}

def St.putO (st : St) : Option Nat → AV → St
  | none, _ => st
  | some d, av => st.put d av
def ltO (nt : Nat) : Option Nat → Bool
  | none => true
  | some d => Nat.blt d nt

/-- How what is handed back stands to things of the caller's: 'flat': it holds no address; 'own': none of the caller's things was shown. -/
inductive Mode {α : Type} (st : St) (ρ : Nat → Nat) (hi : List (Nat × Res)) (cargs avs : List AV) (r : α → AV) (ho : α → List (Nat × Res)) : Prop
  | flat : Pass st ρ hi cargs avs → (∀ x, (r x).Flat) → (∀ x, FlatH (ho x)) → Mode st ρ hi cargs avs r ho
  | own : AV.rnmL ρ cargs = avs → Mode st ρ hi cargs avs r ho

theorem mem_map_get {α : Type} : ∀ {l : List (Nat × α)} {j : Nat}, j ∈ l.map (·.1) → ∃ r, get l j = some r
  | [], _, h => by cases h
  | (i, x) :: l, j, h => by
    rw [get_cons]
    by_cases e : i = j
    · rw [if_pos e]; exact ⟨_, rfl⟩
    · rw [if_neg e]
      rw [List.map_cons] at h
      rcases List.mem_cons.1 h with h | h
      · exact absurd h.symm e
      · exact mem_map_get h

/-- A call. -/
theorem AO.callW {α : Type} {x : Operand} {args : List Operand} {argTypes : Array TypeId} {f : FuncId} {cv : AV} {avs caps cargs : List AV} {hi : List (Nat × Res)} {kp : List Nat} {R : α → Prop} {r : α → AV} {ho : α → List (Nat × Res)}
    (hw : ∀ η φ a w, RepE fr η φ st a w → Region.wanted ⟨d, .call { callee := .value x, args := args.toArray, argTypes := argTypes }, t, pos, aft, g⟩ (yielded ops a.tmps) = true)
    (ρ his hos : List Nat) (hx : st.ev x = some cv) (hcv : cv.fn = some (f, caps)) (hf : Enters P f) (ha : st.evL args = some avs) (hp : FnE P f cargs hi kp R r ho) (hmode : Mode st (rn ρ) hi cargs (avs ++ caps) r ho)
    (hhis : hi.map (·.1) = his) (hhos : ∀ x, (ho x).map (·.1) = hos) (hh : HasH st.hp (rn ρ) hi)
    (hb : (nodupB his && nodupB hos && nodupB (his.map (rn ρ)) && nodupB ((his ++ hos.filter fun i => !his.contains i).map (rn ρ)) && freshAll st ((hos.filter fun i => !his.contains i).map (rn ρ))
      && noneB fr.pin (((his.filter fun i => !kp.contains i) ++ hos.filter fun i => !his.contains i).map (rn ρ)) && !his.contains 900 && !hos.contains 900 && inBH his hi && AV.inBL his cargs && !kp.contains 900 && ltO fr.nt d) = true)
    (hino : ∀ x, inBH hos (ho x) = true) (hinr : ∀ x, (r x).inB hos = true)
    (hk : ∀ x, R x → AO P fr ops rest k false ((st.behindCall (rn ρ) his hos kp (ho x)).putO d ((r x).rnm (rn ρ)))) :
    AO P fr ops (⟨d, .call { callee := .value x, args := args.toArray, argTypes := argTypes }, t, pos, aft, g⟩ :: rest) k false st := by
  intro a w ⟨η, φ, hr⟩
  simp only [Bool.and_eq_true, Bool.not_eq_true'] at hb
  obtain ⟨⟨⟨⟨⟨⟨⟨⟨⟨⟨⟨b1, b2⟩, b3⟩, b4⟩, b5⟩, b6⟩, b7⟩, b8⟩, b9⟩, b10⟩, b11⟩, b12⟩ := hb
  obtain ⟨us, e1, e2⟩ := fn_rel hcv (hr.ev hx)
  unfold wpList
  rw [if_pos (by exact hw η φ a w hr)]
  refine .inl ?_
  unfold Oper.wp
  rw [exec_call hf e1]
  simp only [Oper.upon]
  have h1 := aRelL_append _ _ _ _ (evL_rel hr args avs ha) e2
  have hSall : ∀ k, SOf (fun i => φ (rn ρ i)) hi k → SOf φ st.hp k := by
    rintro k ⟨i, q, hg, hm⟩; exact ⟨_, _, hh.spec i q hg, hm⟩
  have hsame : ∀ {S}, Same S w w := ⟨Nat.le_refl _, fun _ _ _ => rfl⟩
  -- the blocks that the call is not to touch, and what follows
  have main : ∀ F0 : List Nat, (∀ k ∈ F0, st.Oth φ (his.map (rn ρ)) k) → ARelL (fun i => η (rn ρ i)) (fun k => SOf (fun i => φ (rn ρ i)) hi k ∨ k ∈ F0) w cargs (args.map a.eval ++ us.toList) →
      (∀ x (η' : Nat → Value) φ' w' i q, get (ho x) i = some q → RRes η' (fun k => SOf φ' (ho x) k ∨ k ∈ F0) w' (η' i) (φ' i) q → RRes η' (fun k => SOf φ' (ho x) k ∨ st.Oth φ (his.map (rn ρ)) k) w' (η' i) (φ' i) q) →
      (∀ x (η' : Nat → Value) φ' w' u, ARel η' (fun k => SOf φ' (ho x) k ∨ k ∈ F0) w' (r x) u → ARel η' (fun k => SOf φ' (ho x) k ∨ st.Oth φ (his.map (rn ρ)) k) w' (r x) u) →
      Calls P f ((args.map a.eval) ++ us.toList).toArray w (fun e w' => ∃ v, e = .returned v ∧ wpList P ops (cont P fr k) rest (a.put d v) w') := by
    intro F0 hF0 hargs hc1 hc2
    refine (FnE.use hp hr hhis hhos hh b3 b7 b8 b9 b10 b11 F0 hF0 hargs).mono fun e w' ⟨x, hR, u, η', φ', g1, g2, g3, g4, g5, g6, g7⟩ => ?_
    refine ⟨u, g1, ?_⟩
    have hcd := hr.called (ρ := rn ρ) (his := his) (hos := hos) (kp := kp) hhis (hhos x) hh b4 b2 b1 b5 b6 (hino x) g2 g5 g6 g7 (fun i q hg => hc1 x η' φ' w' i q hg (g4 i q hg))
    refine hk x hR _ _ ⟨pickN (rn ρ) hos η' η, pickN (rn ρ) hos φ' φ, ?_⟩
    cases d with
    | none => simpa only [St.putO, Act.put] using hcd.1
    | some d => exact hcd.1.put b12 (hcd.2 (r x) (hinr x) u (hc2 x η' φ' w' u g3))
  have fin : ∀ {f args}, Calls P f args w (fun e w' => ∃ v, e = .returned v ∧ wpList P ops (cont P fr k) rest (a.put d v) w') → Calls P f args w (fun e w' => match e, w' with
      | .returned v, w'' => wpList P ops (cont P fr k) rest (a.put d v) w''
      | .panicked chain, w'' => cont P fr k (.panic chain) a w''
      | .outgrown, _ => LetsOut (cont P fr k)) := fun h => h.mono (fun e w' ⟨v, e1, h⟩ => by subst e1; exact h)
  refine fin ?_
  cases hmode with
  | flat hpass hfr hfh =>
    refine main [] (by simp) ?_ (fun x η' φ' w' i q hg h => RRes.flat ((hfh x).spec i q hg) h) (fun x η' φ' w' u h => ARel.flat _ _ (hfr x) h)
    exact ARelL.mono hsame (fun k _ h => by rcases h with h | h; exact h; cases h) _ _ (fun _ _ => rfl) (hpass.rel hh hr _ h1)
  | own hav =>
    have hF : ∀ k, k ∈ ((st.hp.map (·.1)).filter fun j => !(his.map (rn ρ)).contains j).flatMap φ ↔ st.Oth φ (his.map (rn ρ)) k := by
      intro k
      rw [List.mem_flatMap]
      constructor
      · rintro ⟨j, h1, h2⟩
        obtain ⟨h3, h4⟩ := List.mem_filter.1 h1
        obtain ⟨q, hq⟩ := mem_map_get h3
        exact ⟨j, q, hq, by simpa using h4, h2⟩
      · rintro ⟨j, q, h1, h2, h3⟩
        exact ⟨j, List.mem_filter.2 ⟨List.mem_map.2 ⟨(j, q), mem_of_get h1, rfl⟩, by simpa using h2⟩, h3⟩
    refine main (((st.hp.map (·.1)).filter fun j => !(his.map (rn ρ)).contains j).flatMap φ) (fun k hk => (hF k).1 hk) ?_ ?_ ?_
    · rw [← hav] at h1
      refine (ARelL.rnm _ _).2 (ARelL.mono hsame (fun k _ h => ?_) _ _ (fun _ _ => rfl) h1)
      rcases h with h | h
      · exact hSall k h
      · obtain ⟨j, q, h1, _, h2⟩ := (hF k).1 h; exact ⟨j, q, h1, h2⟩
    · intro x η' φ' w' i q hg h
      exact RRes.mono ⟨Nat.le_refl _, fun _ _ _ => rfl⟩ (fun k _ h => h.imp (fun h => h) (fun h => (hF k).2 h)) (fun _ _ => rfl) q (fun _ _ => rfl) h
    · intro x η' φ' w' u h
      exact ARel.mono ⟨Nat.le_refl _, fun _ _ _ => rfl⟩ (fun k _ h => h.imp (fun h => h) (fun h => (hF k).2 h)) _ _ (fun _ _ => rfl) h

theorem wantedG {o : Oper} {j dj : Nat} {c : Bool} (hg : o.guard = some (j, c)) (hj : (ops[j]?).bind (·.dst) = some dj) (hc : get st.tm dj = some (.p (.v (.bool c)))) : ∀ η φ a w, RepE fr η φ st a w → Region.wanted o (yielded ops a.tmps) = true :=
  fun η φ a w hr => by simp [Region.wanted, hg, yielded_of hr hj hc]
theorem wantedN {o : Oper} (hg : o.guard = none) : ∀ η φ a w, RepE fr η φ st a w → Region.wanted o (yielded ops a.tmps) = true := fun _ _ _ _ _ => wanted_none hg _

/-! The proof of such a contract. -/
def XQ {α : Type} (P : Program) (fn : Func) (η : Nat → Value) (φ : Nat → List Nat) (w : World) (hi : List (Nat × Res)) (kp : List Nat) (R : α → Prop) (r : α → AV) (ho : α → List (Nat × Res)) : Exit → Act → World → Prop :=
  bodyPost P fn fun e w' => ∃ x, R x ∧ ∃ u η' φ', e = .returned u ∧ HpOk η' φ' (ho x) w' ∧ ARel η' (SOf φ' (ho x)) w' (r x) u ∧ (∀ i, i ∈ kp → η' i = η i) ∧
      (∀ i q k, get (ho x) i = some q → k ∈ φ' i → SOf φ hi k ∨ w.heap.size ≤ k) ∧ Keep (SOf φ hi) w w'
def pins (η : Nat → Value) : List Nat → List (Nat × Value)
  | [] => []
  | i :: l => (i, η i) :: pins η l
theorem get_pins {η : Nat → Value} : ∀ {l : List Nat} {i : Nat} {v : Value}, get (pins η l) i = some v → v = η i
  | [], _, _, h => by cases h
  | j :: l, i, v, h => by
    simp only [pins, get_cons] at h
    split at h
    · next e => subst e; exact (Option.some.inj h).symm
    · exact get_pins h
theorem get_pins_mem {η : Nat → Value} : ∀ {l : List Nat} {i : Nat}, i ∈ l → get (pins η l) i = some (η i)
  | [], _, h => by cases h
  | j :: l, i, h => by
    simp only [pins, get_cons]
    split
    · next e => rw [e]
    · next e =>
      rcases List.mem_cons.1 h with h | h
      · exact absurd h.symm e
      · exact get_pins_mem h
def XFr {α : Type} (P : Program) (fn : Func) (nt : Nat) (η : Nat → Value) (φ : Nat → List Nat) (w : World) (hi : List (Nat × Res)) (kp : List Nat) (R : α → Prop) (r : α → AV) (ho : α → List (Nat × Res)) : Fr :=
  ⟨w, SOf φ hi, nt, XQ P fn η φ w hi kp R r ho, pins η kp⟩

def entA : Nat → List AV → List (Nat × AV)
  | _, [] => []
  | i, x :: l => (i, x) :: entA (i + 1) l
theorem entA_get : ∀ (i : Nat) (l : List AV) (j : Nat) (av : AV), get (entA i l) j = some av → i ≤ j ∧ l[j - i]? = some av
  | _, [], _, _, h => by cases h
  | i, x :: l, j, av, h => by
    simp only [entA, get_cons] at h
    split at h
    · next e => subst e; obtain rfl := Option.some.inj h; exact ⟨Nat.le_refl _, by simp⟩
    · next e =>
      obtain ⟨h1, h2⟩ := entA_get (i + 1) l j av h
      refine ⟨by omega, ?_⟩
      rw [show j - i = (j - (i + 1)) + 1 by omega, List.getElem?_cons_succ]; exact h2

theorem FnE.intro {α : Type} {f : FuncId} {fn : Func} {c : Code} {nt : Nat} {args : List AV} {hi : List (Nat × Res)} {kp : List Nat} {R : α → Prop} {r : α → AV} {ho : α → List (Nat × Res)} {tm : List (Nat × AV)}
    (hf : P.funcs[f]? = some fn) (hb : fn.body = some c) (hnt : fn.ntmps = nt) (hn : Nat.ble args.length nt = true) (he : entA 0 args = tm)
    (h : ∀ w0 F0 η φ w, AC P (XFr P fn nt η φ w ((900, .cust (extC w0 F0)) :: hi) kp R r (fun x => (900, .cust (extC w0 F0)) :: ho x)) [.code c] ⟨tm, (900, .cust (extC w0 F0)) :: hi⟩) : FnE P f args hi kp R r ho := by
  intro w0 F0 η φ w us hok hrel
  refine calls_of_wp hf hb ?_
  have hl := aRelL_length args us hrel
  have hn' := Nat.le_of_ble_eq_true hn
  refine h w0 F0 η φ w _ _ ⟨η, φ, rfl, ?_, ?_, hok.res, hok.disj, fun i q k h1 h2 => .inr ⟨i, q, h1, h2⟩, hok.lt, Keep.refl _ _, fun i v hi' => (get_pins hi').symm⟩
  · simp only [XFr, Array.size_append, List.size_toArray, Array.size_replicate, hnt, hl]; omega
  · intro i av hg
    rw [← he] at hg
    obtain ⟨_, h2⟩ := entA_get 0 args i av hg
    obtain ⟨u, h3, h4⟩ := aRelL_getElem args us i av hrel (by simpa using h2)
    refine ⟨u, ?_, h4⟩
    have hi' : i < us.length := (List.getElem?_eq_some_iff.1 h3).1
    rw [Array.getElem?_append_left (by simpa using hi')]
    simpa using h3

/-- What is handed back, among what is owned. -/
def HasE (hp : List (Nat × Res)) (ρ : Nat → Nat) : List (Nat × Res) → Prop
  | [] => True
  | (i, r) :: l => (∃ r', get hp (ρ i) = some r' ∧ r' = r.rnm ρ) ∧ HasE hp ρ l
theorem HasE.toH {hp : List (Nat × Res)} {ρ : Nat → Nat} : ∀ {l : List (Nat × Res)}, HasE hp ρ l → HasH hp ρ l
  | [], _ => trivial
  | (_, _) :: _, ⟨⟨_, h1, h2⟩, h3⟩ => ⟨by rw [h1, h2], h3.toH⟩
theorem vecE {ty rs : Nat} {rows' rows : List (List PV)} (h : rows' = rows) : Res.vec ty rs rows' = .vec ty rs rows := by rw [h]

theorem XQ_of {α : Type} {fn : Func} {nt : Nat} {η : Nat → Value} {φ : Nat → List Nat} {w0 : World} {hi : List (Nat × Res)} {kp : List Nat} {R : α → Prop} {r : α → AV} {ho : α → List (Nat × Res)} (x : α) (ρ : Nat → Nat) {avs : List AV}
    (h : RVs P st fn.results.toList avs) (hv : final avs = (r x).rnm ρ) (hR : R x) (hH : HasH st.hp ρ (ho x)) (hnd : ((ho x).map (fun p => ρ p.1)).Nodup) (hkp : ∀ i ∈ kp, ρ i = i) {a : Act} {w : World} (hr : Rep (XFr P fn nt η φ w0 hi kp R r ho) st a w) :
    bodyPost P fn (fun e w' => ∃ x, R x ∧ ∃ u η' φ', e = .returned u ∧ HpOk η' φ' (ho x) w' ∧ ARel η' (SOf φ' (ho x)) w' (r x) u ∧ (∀ i, i ∈ kp → η' i = η i) ∧
      (∀ i q k, get (ho x) i = some q → k ∈ φ' i → SOf φ hi k ∨ w0.heap.size ≤ k) ∧ Keep (SOf φ hi) w0 w') .ret a w := by
  obtain ⟨ηe, φe, hr⟩ := hr
  obtain ⟨u, e1, e2⟩ := results_run h hr
  have hinj : ∀ i q j q', get (ho x) i = some q → get (ho x) j = some q' → ρ i = ρ j → i = j := by
    intro i q j q' h1 h2
    have := inj_of_nodup (ρ := ρ) (l := (ho x).map (·.1)) (by rw [List.map_map]; exact hnd)
    exact this i (List.mem_map.2 ⟨_, mem_of_get h1, rfl⟩) j (List.mem_map.2 ⟨_, mem_of_get h2, rfl⟩)
  have hS : ∀ k, SOf (fun i => φe (ρ i)) (ho x) k → SOf φe st.hp k := by
    rintro k ⟨i, q, hg, hm⟩; exact ⟨_, _, hH.spec i q hg, hm⟩
  have hw : ∀ {S}, Same S w w := ⟨Nat.le_refl _, fun _ _ _ => rfl⟩
  refine ⟨hr.defers, u, e1, x, hR, u, fun i => ηe (ρ i), fun i => φe (ρ i), rfl, ⟨?_, ?_, ?_⟩, ?_, ?_, ?_, hr.keep⟩
  · intro i q hg
    refine RRes.mono hw (fun k _ h => hS k h) (fun _ _ => rfl) q (fun _ _ => rfl) ((RRes.rnm (η := ηe) (ρ := ρ) q).2 (hr.res _ _ (hH.spec i q hg)))
  · intro i j q q' k h1 h2 h3 h4
    exact hinj i q j q' h1 h2 (hr.disj _ _ _ _ k (hH.spec i q h1) (hH.spec j q' h2) h3 h4)
  · intro i q k h1 h2; exact hr.lt _ _ k (hH.spec i q h1) h2
  · rw [hv] at e2
    exact ARel.mono hw (fun k _ h => hS k h) _ _ (fun _ _ => rfl) ((ARel.rnm _ _).2 e2)
  · intro i hi'
    simp only [hkp i hi']
    exact hr.pin i (η i) (get_pins_mem hi')
  · intro i q k h1 h2
    exact (hr.low _ _ k (hH.spec i q h1) h2).symm

def kpB (σ : List Nat) : List Nat → Bool
  | [] => true
  | i :: l => Nat.beq (sg σ i) i && kpB σ l
theorem kpB_spec {σ : List Nat} : ∀ {l : List Nat}, kpB σ l = true → ∀ i ∈ l, sg σ i = i
  | [], _, _, h => by cases h
  | j :: l, hb, i, hi => by
    simp only [kpB, Bool.and_eq_true] at hb
    rcases List.mem_cons.1 hi with rfl | hi
    · exact Nat.eq_of_beq_eq_true hb.1
    · exact kpB_spec hb.2 i hi

theorem FnE.ret {α : Type} {fn : Func} {nt : Nat} {η : Nat → Value} {φ : Nat → List Nat} {w w0 : World} {F0 : List Nat} {hi : List (Nat × Res)} {kp : List Nat} {R : α → Prop} {r : α → AV} {ho : α → List (Nat × Res)} (x : α) (σ hos : List Nat) {l : List ResultVar} {avs : List AV}
    (hl : fn.results = l.toArray) (h : RVs P st l avs) (hext : get st.hp 900 = some (.cust (extC w0 F0))) (hhos : (ho x).map (·.1) = hos) (hb : (nodupB ((900 :: hos).map (sg σ)) && kpB σ kp) = true) (hR : R x) (hv : final avs = (r x).rnm (sg σ)) (hH : HasE st.hp (sg σ) (ho x)) :
    AC P (XFr P fn nt η φ w ((900, .cust (extC w0 F0)) :: hi) kp R r (fun x => (900, .cust (extC w0 F0)) :: ho x)) (.code .ret :: k) st := by
  intro a w' hr
  refine wp_ret ?_
  rw [cont_ret]
  simp only [Bool.and_eq_true] at hb
  refine XQ_of (ho := fun x => (900, .cust (extC w0 F0)) :: ho x) x (sg σ) (by rw [hl]; simpa using h) hv hR ⟨(show get st.hp 900 = some (Res.cust (extC w0 F0)) from hext), hH.toH⟩ ?_ (kpB_spec hb.2) hr
  have := nodupB_spec hb.1
  rw [← hhos] at this
  simpa [List.map_map, Function.comp_def] using this
theorem FnE.fin {α : Type} {fn : Func} {nt : Nat} {η : Nat → Value} {φ : Nat → List Nat} {w w0 : World} {F0 : List Nat} {hi : List (Nat × Res)} {kp : List Nat} {R : α → Prop} {r : α → AV} {ho : α → List (Nat × Res)} (x : α) (σ hos : List Nat) {l : List ResultVar} {avs : List AV}
    (hl : fn.results = l.toArray) (h : RVs P st l avs) (hext : get st.hp 900 = some (.cust (extC w0 F0))) (hhos : (ho x).map (·.1) = hos) (hb : (nodupB ((900 :: hos).map (sg σ)) && kpB σ kp) = true) (hR : R x) (hv : final avs = (r x).rnm (sg σ)) (hH : HasE st.hp (sg σ) (ho x)) :
    AC P (XFr P fn nt η φ w ((900, .cust (extC w0 F0)) :: hi) kp R r (fun x => (900, .cust (extC w0 F0)) :: ho x)) [] st := by
  intro a w' hr
  simp only [Bool.and_eq_true] at hb
  refine XQ_of (ho := fun x => (900, .cust (extC w0 F0)) :: ho x) x (sg σ) (by rw [hl]; simpa using h) hv hR ⟨(show get st.hp 900 = some (Res.cust (extC w0 F0)) from hext), hH.toH⟩ ?_ (kpB_spec hb.2) hr
  have := nodupB_spec hb.1
  rw [← hhos] at this
  simpa [List.map_map, Function.comp_def] using this
end
end Go.V
