/- The calculus' rules: loops with several turning values. -/
import Derived.Test.YtbbechcbdeknnaaV15
import Derived.Lib.SliceRun
set_option linter.all false
namespace Go.V
open Go
section
variable {P : Program} {fr : Fr} {st : St} {k : List It}
theorem AC.loopC2 {c : Code} {σ0 σ1 : Type} (C : List (Nat × AV)) (CH : List (Nat × Res)) (V : σ0 → σ1 → List (Nat × AV)) (H : σ0 → σ1 → List (Nat × Res)) (J : σ0 → σ1 → Prop) (μ : σ0 → σ1 → Nat) (a0 : σ0) (a1 : σ1)
    (hC : SubT st.tm C) (hCH : SubH st.hp CH) (hV : SubT st.tm (V a0 a1)) (hH : SubH st.hp (H a0 a1)) (h0 : J a0 a1)
    (round : ∀ x0 x1, J x0 x1 → AC P fr (.code c :: .inv (fun st' => ∃ y0 y1, J y0 y1 ∧ μ y0 y1 < μ x0 x1 ∧ SubT st'.tm (V y0 y1) ∧ SubH st'.hp (H y0 y1) ∧ SubT st'.tm C ∧ SubH st'.hp CH) :: k) ⟨V x0 x1 ++ C, H x0 x1 ++ CH⟩) :
    AC P fr (.code (.loop c) :: k) st :=
  AC.loopC (σ := σ0 × σ1) C CH (fun s => V s.1 s.2) (fun s => H s.1 s.2) (fun s => J s.1 s.2) (fun s => μ s.1 s.2) (a0, a1) hC hCH hV hH h0 (fun ⟨x0, x1⟩ hJ => by
    intro a w hr
    refine wp_mono (round x0 x1 hJ a w hr) ?_
    intro e a' w' hq
    cases e with
    | normal =>
      obtain ⟨st', ⟨y0, y1, h1, h2⟩, h3⟩ := hq
      exact ⟨st', ⟨(y0, y1), h1, h2⟩, h3⟩
    | _ => exact hq)
theorem AC.loopC3 {c : Code} {σ0 σ1 σ2 : Type} (C : List (Nat × AV)) (CH : List (Nat × Res)) (V : σ0 → σ1 → σ2 → List (Nat × AV)) (H : σ0 → σ1 → σ2 → List (Nat × Res)) (J : σ0 → σ1 → σ2 → Prop) (μ : σ0 → σ1 → σ2 → Nat) (a0 : σ0) (a1 : σ1) (a2 : σ2)
    (hC : SubT st.tm C) (hCH : SubH st.hp CH) (hV : SubT st.tm (V a0 a1 a2)) (hH : SubH st.hp (H a0 a1 a2)) (h0 : J a0 a1 a2)
    (round : ∀ x0 x1 x2, J x0 x1 x2 → AC P fr (.code c :: .inv (fun st' => ∃ y0 y1 y2, J y0 y1 y2 ∧ μ y0 y1 y2 < μ x0 x1 x2 ∧ SubT st'.tm (V y0 y1 y2) ∧ SubH st'.hp (H y0 y1 y2) ∧ SubT st'.tm C ∧ SubH st'.hp CH) :: k) ⟨V x0 x1 x2 ++ C, H x0 x1 x2 ++ CH⟩) :
    AC P fr (.code (.loop c) :: k) st :=
  AC.loopC (σ := σ0 × σ1 × σ2) C CH (fun s => V s.1 s.2.1 s.2.2) (fun s => H s.1 s.2.1 s.2.2) (fun s => J s.1 s.2.1 s.2.2) (fun s => μ s.1 s.2.1 s.2.2) (a0, a1, a2) hC hCH hV hH h0 (fun ⟨x0, x1, x2⟩ hJ => by
    intro a w hr
    refine wp_mono (round x0 x1 x2 hJ a w hr) ?_
    intro e a' w' hq
    cases e with
    | normal =>
      obtain ⟨st', ⟨y0, y1, y2, h1, h2⟩, h3⟩ := hq
      exact ⟨st', ⟨(y0, y1, y2), h1, h2⟩, h3⟩
    | _ => exact hq)
theorem AC.loopC4 {c : Code} {σ0 σ1 σ2 σ3 : Type} (C : List (Nat × AV)) (CH : List (Nat × Res)) (V : σ0 → σ1 → σ2 → σ3 → List (Nat × AV)) (H : σ0 → σ1 → σ2 → σ3 → List (Nat × Res)) (J : σ0 → σ1 → σ2 → σ3 → Prop) (μ : σ0 → σ1 → σ2 → σ3 → Nat) (a0 : σ0) (a1 : σ1) (a2 : σ2) (a3 : σ3)
    (hC : SubT st.tm C) (hCH : SubH st.hp CH) (hV : SubT st.tm (V a0 a1 a2 a3)) (hH : SubH st.hp (H a0 a1 a2 a3)) (h0 : J a0 a1 a2 a3)
    (round : ∀ x0 x1 x2 x3, J x0 x1 x2 x3 → AC P fr (.code c :: .inv (fun st' => ∃ y0 y1 y2 y3, J y0 y1 y2 y3 ∧ μ y0 y1 y2 y3 < μ x0 x1 x2 x3 ∧ SubT st'.tm (V y0 y1 y2 y3) ∧ SubH st'.hp (H y0 y1 y2 y3) ∧ SubT st'.tm C ∧ SubH st'.hp CH) :: k) ⟨V x0 x1 x2 x3 ++ C, H x0 x1 x2 x3 ++ CH⟩) :
    AC P fr (.code (.loop c) :: k) st :=
  AC.loopC (σ := σ0 × σ1 × σ2 × σ3) C CH (fun s => V s.1 s.2.1 s.2.2.1 s.2.2.2) (fun s => H s.1 s.2.1 s.2.2.1 s.2.2.2) (fun s => J s.1 s.2.1 s.2.2.1 s.2.2.2) (fun s => μ s.1 s.2.1 s.2.2.1 s.2.2.2) (a0, a1, a2, a3) hC hCH hV hH h0 (fun ⟨x0, x1, x2, x3⟩ hJ => by
    intro a w hr
    refine wp_mono (round x0 x1 x2 x3 hJ a w hr) ?_
    intro e a' w' hq
    cases e with
    | normal =>
      obtain ⟨st', ⟨y0, y1, y2, y3, h1, h2⟩, h3⟩ := hq
      exact ⟨st', ⟨(y0, y1, y2, y3), h1, h2⟩, h3⟩
    | _ => exact hq)
theorem AC.loopC5 {c : Code} {σ0 σ1 σ2 σ3 σ4 : Type} (C : List (Nat × AV)) (CH : List (Nat × Res)) (V : σ0 → σ1 → σ2 → σ3 → σ4 → List (Nat × AV)) (H : σ0 → σ1 → σ2 → σ3 → σ4 → List (Nat × Res)) (J : σ0 → σ1 → σ2 → σ3 → σ4 → Prop) (μ : σ0 → σ1 → σ2 → σ3 → σ4 → Nat) (a0 : σ0) (a1 : σ1) (a2 : σ2) (a3 : σ3) (a4 : σ4)
    (hC : SubT st.tm C) (hCH : SubH st.hp CH) (hV : SubT st.tm (V a0 a1 a2 a3 a4)) (hH : SubH st.hp (H a0 a1 a2 a3 a4)) (h0 : J a0 a1 a2 a3 a4)
    (round : ∀ x0 x1 x2 x3 x4, J x0 x1 x2 x3 x4 → AC P fr (.code c :: .inv (fun st' => ∃ y0 y1 y2 y3 y4, J y0 y1 y2 y3 y4 ∧ μ y0 y1 y2 y3 y4 < μ x0 x1 x2 x3 x4 ∧ SubT st'.tm (V y0 y1 y2 y3 y4) ∧ SubH st'.hp (H y0 y1 y2 y3 y4) ∧ SubT st'.tm C ∧ SubH st'.hp CH) :: k) ⟨V x0 x1 x2 x3 x4 ++ C, H x0 x1 x2 x3 x4 ++ CH⟩) :
    AC P fr (.code (.loop c) :: k) st :=
  AC.loopC (σ := σ0 × σ1 × σ2 × σ3 × σ4) C CH (fun s => V s.1 s.2.1 s.2.2.1 s.2.2.2.1 s.2.2.2.2) (fun s => H s.1 s.2.1 s.2.2.1 s.2.2.2.1 s.2.2.2.2) (fun s => J s.1 s.2.1 s.2.2.1 s.2.2.2.1 s.2.2.2.2) (fun s => μ s.1 s.2.1 s.2.2.1 s.2.2.2.1 s.2.2.2.2) (a0, a1, a2, a3, a4) hC hCH hV hH h0 (fun ⟨x0, x1, x2, x3, x4⟩ hJ => by
    intro a w hr
    refine wp_mono (round x0 x1 x2 x3 x4 hJ a w hr) ?_
    intro e a' w' hq
    cases e with
    | normal =>
      obtain ⟨st', ⟨y0, y1, y2, y3, y4, h1, h2⟩, h3⟩ := hq
      exact ⟨st', ⟨(y0, y1, y2, y3, y4), h1, h2⟩, h3⟩
    | _ => exact hq)

variable {d : Option Tmp} {t : TypeId} {pos : String} {aft : Array Edge} {g : Option (Nat × Bool)}
/-- A conversion of an int64 to an int64. -/
theorem Yld.convId {src dst : TypeId} {x : Operand} {a : Int} {D : TypeDesc} (hs : P.underlying src = some D) (hd : P.underlying dst = some (.int .i64))
    (hx : st.ev x = some (.p (.v (.int .i64 a)))) (h1 : -9223372036854775808 ≤ a) (h2 : a ≤ 9223372036854775807) : Yld P fr ⟨d, .convert src dst x, t, pos, aft, g⟩ st (.p (.v (.int .i64 a))) := by
  have := Yld.convInt (P := P) (fr := fr) (d := d) (t := t) (pos := pos) (aft := aft) (g := g) hs hd hx
  rwa [wrap_id h1 h2] at this
/-- A slice of a slice of rows, up to a place, or from one on. -/
theorem Yld.sliceTo {α : Type} {enc : α → List PV} {ty e : TypeId} {x y : Operand} {h rs : Nat} {xs : List α} {kk : IntKind} {j : Int} (hs : P.underlying ty = some (.slice e)) (hsz : ∀ w, (sizeOf e).run P w = .ok rs w)
    (hx : st.ev x = some (.p (.sl rs (xs.map enc)))) (hy : st.ev y = some (.p (.v (.int kk j)))) (hj : j = (h : Int)) (h2 : h ≤ xs.length) :
    Yld P fr ⟨d, .slice ty x none (some y) none, t, pos, aft, g⟩ st (.p (.sl rs ((xs.take h).map enc))) := by
  have := Yld.sliceSl (P := P) (fr := fr) (d := d) (t := t) (pos := pos) (aft := aft) (g := g) hs hsz hx .none (.some hy hj) (Nat.zero_le _) (by simpa using h2)
  simpa [List.map_take] using this
theorem Yld.sliceFrom {α : Type} {enc : α → List PV} {ty e : TypeId} {x y : Operand} {l rs : Nat} {xs : List α} {kk : IntKind} {j : Int} (hs : P.underlying ty = some (.slice e)) (hsz : ∀ w, (sizeOf e).run P w = .ok rs w)
    (hx : st.ev x = some (.p (.sl rs (xs.map enc)))) (hy : st.ev y = some (.p (.v (.int kk j)))) (hj : j = (l : Int)) (h2 : l ≤ xs.length) :
    Yld P fr ⟨d, .slice ty x (some y) none none, t, pos, aft, g⟩ st (.p (.sl rs ((xs.drop l).map enc))) := by
  have := Yld.sliceSl (P := P) (fr := fr) (d := d) (t := t) (pos := pos) (aft := aft) (g := g) hs hsz hx (.some hy hj) .none (by simpa using h2) (Nat.le_refl _)
  rw [List.take_of_length_le (by simp)] at this
  simpa [List.map_drop] using this
variable {ops : Array Oper} {rest : List Oper} {q : Bool}
/-- A slice beside nil: where it is nil it has no elements. -/
theorem AO.eqNil {dd : Nat} {ty ty2 e : TypeId} {x : Operand} {av : AV} {rs n : Nat} (hs : P.underlying ty = some (.slice e)) (hx : st.ev x = some av) (hb : st.rows av = some (rs, n)) (hlt : Nat.blt dd fr.nt = true)
    (hk : ∀ c : Bool, (c = true → n = 0) → AO P fr ops rest k q (st.put dd (.p (.v (.bool c))))) :
    AO P fr ops (⟨some dd, .binOp .eql ty x (.const (.slice none 0 0)) ty2, t, pos, aft, none⟩ :: rest) k q st := by
  have main : ∀ η φ a w, RepE fr η φ st a w → ∃ c : Bool, (c = true → n = 0) ∧ ∀ w', (execOp a.eval ⟨some dd, .binOp .eql ty x (.const (.slice none 0 0)) ty2, t, pos, aft, none⟩).run P w' = .ok (.value (.bool c)) w' := by
    intro η φ a w hr
    obtain ⟨y, cap, h1⟩ := rows_rel hb hr (hr.ev hx)
    refine ⟨y.isNone, fun h => ?_, fun w' => ?_⟩
    · have hrel := hr.ev hx
      cases y with
      | some y => cases h
      | none =>
        cases av with
        | p z =>
          cases z with
          | sl rs' rows =>
            simp only [St.rows, Option.some.injEq, Prod.mk.injEq] at hb
            simp only [ARel, Rel] at hrel
            obtain ⟨a', cap', e1, _, e3⟩ := hrel
            rw [h1] at e1
            simp only [Value.slice.injEq] at e1
            rcases e3 with e3 | ⟨b, o, e4, _⟩
            · rw [← hb.2, e3]; rfl
            · rw [← e1.1] at e4; cases e4
          | _ => cases hb
        | h id =>
          simp only [St.rows] at hb
          simp only [ARel] at hrel
          cases hg : get st.hp id with
          | none => rw [hg] at hb; cases hb
          | some r =>
            rw [hg] at hb
            cases r with
            | cust C => cases hb
            | box ty cs' => cases hb
            | vec ty rs' rows =>
              simp only [Option.some.injEq, Prod.mk.injEq] at hb
              obtain ⟨xs, _, _, h3, _⟩ := hr.res id _ hg
              rcases h3.2 with ⟨_, hn⟩ | ⟨g, cap', cur, e, _⟩
              · rw [← hb.2]; exact hn
              · rw [← hrel, h1] at e
                simp at e
        | _ => cases hb
    · have := Go.Lib.run_eql_slice_nil (P := P) w' ty e y n cap 0 0 hs
      have he : a.eval (.const (.slice none 0 0)) = .slice none 0 0 := rfl
      simp only [execOp, h1, he, eqGuard]
      simp [this]
  cases q with
  | false =>
    intro a w ⟨η, φ, hr⟩
    obtain ⟨c, h1, h2⟩ := main η φ a w hr
    simp only [wpList, wanted_none (o := ⟨some dd, .binOp .eql ty x (.const (.slice none 0 0)) ty2, t, pos, aft, none⟩) rfl, if_true]
    refine .inl ?_
    unfold Oper.wp
    rw [h2 w]
    simp only [Oper.upon]
    exact hk c h1 _ _ ⟨η, φ, hr.put hlt (by simp [ARel, Rel])⟩
  | true =>
    intro η φ a w hr
    obtain ⟨c, h1, h2⟩ := main η φ a w hr
    simp only [wpQuiet, wanted_none (o := ⟨some dd, .binOp .eql ty x (.const (.slice none 0 0)) ty2, t, pos, aft, none⟩) rfl, if_true]
    refine ⟨.bool c, fun w' hw' => by unfold Oper.quietAt; rw [h2 w']; exact ⟨rfl, rfl⟩, hk c h1 η φ _ w (hr.put hlt (by simp [ARel, Rel]))⟩
end
end Go.V
