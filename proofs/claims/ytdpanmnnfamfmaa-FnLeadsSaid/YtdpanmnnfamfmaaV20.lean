/- The calculus' rules: a nil slice in a box becomes an own empty one; struct literals with their zero values as they are. -/
import Derived.Test.YtdpanmnnfamfmaaV19
set_option linter.all false
namespace Go.V
open Go Go.RowKit

theorem aRelL_set {η : Nat → Value} {S : Nat → Prop} {w : World} : ∀ (cs : List AV) (us : List Value) (i : Nat) (c : AV), ARelL η S w cs us → (∀ u, us[i]? = some u → ARel η S w c u) → ARelL η S w (cs.set i c) us
  | [], us, i, c, h, _ => by simpa [ARelL] using h
  | a :: cs, us, 0, c, h, hc => by
    simp only [ARelL] at h
    obtain ⟨u, us', rfl, h2, h3⟩ := h
    simp only [List.set_cons_zero, ARelL]
    exact ⟨u, us', rfl, hc u (by simp), h3⟩
  | a :: cs, us, i + 1, c, h, hc => by
    simp only [ARelL] at h
    obtain ⟨u, us', rfl, h2, h3⟩ := h
    simp only [List.set_cons_succ, ARelL]
    exact ⟨u, us', rfl, h2, aRelL_set cs us' i c h3 (fun v hv => hc v (by simpa using hv))⟩
theorem aRelL_at {η : Nat → Value} {S : Nat → Prop} {w : World} : ∀ (cs : List AV) (us : List Value) (i : Nat) (c : AV), ARelL η S w cs us → cs[i]? = some c → ∃ u, us[i]? = some u ∧ ARel η S w c u
  | [], us, i, c, _, h => by simp at h
  | a :: cs, us, 0, c, h, hc => by
    simp only [ARelL] at h
    obtain ⟨u, us', rfl, h2, h3⟩ := h
    simp at hc; subst hc
    exact ⟨u, by simp, h2⟩
  | a :: cs, us, i + 1, c, h, hc => by
    simp only [ARelL] at h
    obtain ⟨u, us', rfl, h2, h3⟩ := h
    obtain ⟨v, h4, h5⟩ := aRelL_at cs us' i c h3 (by simpa using hc)
    exact ⟨v, by simpa using h4, h5⟩
section
variable {P : Program} {fr : Fr} {st : St} {ops : Array Oper} {rest : List Oper} {k : List It}
theorem RepE.nilCell {η : Nat → Value} {φ : Nat → List Nat} {a : Act} {w : World} (hr : RepE fr η φ st a w) (id off id2 : Nat) {ty ty2 rs2 : Nat} {cs : List AV} (hg : get st.hp id = some (.box ty cs))
    (hc : cs[off]? = some (.p (.v (.slice none 0 0)))) (hf : st.fresh id2 = true) (hpin : get fr.pin id2 = none) :
    ∃ η' φ', RepE fr η' φ' ⟨st.tm, setR id (.box ty (cs.set off (.h id2))) ((id2, .vec ty2 rs2 []) :: st.hp)⟩ a w := by
  have h1 := hr.add (Below.refl _ _) id2 hf (.vec ty2 rs2 []) (.slice none 0 0) [] (by simp) ⟨[], rfl, by simp, World.ownsRow_nil w 0 ty2 rs2, rfl⟩ hpin
  have hne : id2 ≠ id := fun e => by
    subst e
    have := (freshH_spec (fresh_parts hf).2).1
    rw [this] at hg; cases hg
  have hg' : get ((id2, Res.vec ty2 rs2 []) :: st.hp) id = some (.box ty cs) := by rw [get_cons, if_neg hne]; exact hg
  refine ⟨_, _, h1.recust id hg' ?_⟩
  obtain ⟨b, arr, e1, e2, e3, e4⟩ := h1.res id _ hg'
  refine ⟨b, arr, e1, e2, e3, aRelL_set cs _ off _ e4 (fun u hu => ?_)⟩
  obtain ⟨v, h2, h3⟩ := aRelL_at cs _ off _ e4 hc
  rw [h2] at hu
  obtain rfl := Option.some.inj hu
  simp only [ARel, Rel] at h3 ⊢
  rw [upd_self, h3]
theorem AC.nilCell (id off id2 : Nat) (ty2 rs2 : Nat) {ty : TypeId} {cs : List AV} (hg : get st.hp id = some (.box ty cs)) (hc : cs[off]? = some (.p (.v (.slice none 0 0)))) (hf : st.fresh id2 = true)
    (hk : AC P fr k ⟨st.tm, setR id (.box ty (cs.set off (.h id2))) ((id2, .vec ty2 rs2 []) :: st.hp)⟩) (hpin : get fr.pin id2 = none := by rfl) : AC P fr k st :=
  fun a w ⟨_, _, hr⟩ => by
    obtain ⟨η', φ', h⟩ := hr.nilCell id off id2 (ty2 := ty2) (rs2 := rs2) hg hc hf hpin
    exact hk a w ⟨η', φ', h⟩
theorem AO.nilCell (id off id2 : Nat) (ty2 rs2 : Nat) {ty : TypeId} {cs : List AV} (hg : get st.hp id = some (.box ty cs)) (hc : cs[off]? = some (.p (.v (.slice none 0 0)))) (hf : st.fresh id2 = true)
    (hk : AO P fr ops rest k false ⟨st.tm, setR id (.box ty (cs.set off (.h id2))) ((id2, .vec ty2 rs2 []) :: st.hp)⟩) (hpin : get fr.pin id2 = none := by rfl) : AO P fr ops rest k false st :=
  fun a w ⟨_, _, hr⟩ => by
    obtain ⟨η', φ', h⟩ := hr.nilCell id off id2 (ty2 := ty2) (rs2 := rs2) hg hc hf hpin
    exact hk a w ⟨η', φ', h⟩
end

theorem vRel (S : Nat → Prop) (w : World) : ∀ l : List Value, RelL S w (l.map PV.v) l
  | [] => rfl
  | x :: l => by simp only [List.map_cons, RelL]; exact ⟨x, l, rfl, by simp only [Rel], vRel S w l⟩
section
variable {P : Program} {fr : Fr} {st : St} {d : Option Tmp} {t : TypeId} {pos : String} {aft : Array Edge} {g : Option (Nat × Bool)}
/-- A struct literal, its zero values as they are. -/
theorem Yld.buildV {ty : TypeId} {l : List (Nat × Operand)} {pl : List (Nat × Nat)} {z : Value} {zs : List PV} {cs : List AV} (hB : BuildIs P ty pl z) (hz : z.cells.toList.map PV.v = zs) (hf : st.fillA (fun i => pl[i]?) (zs.map .p) l = some cs) :
    Yld P fr ⟨d, .build ty l.toArray, t, pos, aft, g⟩ st (.agg cs) :=
  Yld.of_run fun η φ A w hr => by
    obtain ⟨us, h1, h2⟩ := fillA_rel hr l (zs.map .p) cs z.cells hf (relL_map zs _ (hz ▸ vRel _ _ _))
    refine ⟨.agg us, fun w' _ => ?_, by simp only [ARel]; exact ⟨us, rfl, h2⟩⟩
    have e : (l.toArray.map (fun (i, x) => (i, A.eval x))).toList = l.map (fun (i, x) => (i, A.eval x)) := by simp
    simp only [execOp]
    rw [Sem.run_bind, hB _ us w' (by rw [e]; exact h1)]
    rfl
end
end Go.V
