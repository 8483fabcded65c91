/- The calculus' rules: what append, literals and calls do, in whatever order a region's operations are carried out; bits. -/
import Derived.Test.YtbbechcbdeknnaaV17
set_option linter.all false
namespace Go.V
open Go Go.RowKit

section
variable {P : Program} {fr : Fr} {st st' : St} {ops : Array Oper} {rest : List Oper} {k : List It} {o : Oper}
/-- What an operation does; what it hands back may be one of several. -/
def EffX (P : Program) (fr : Fr) (o : Oper) (st : St) (T : St → Prop) : Prop := ∀ a w, Rep fr st a w →
  ∃ f args w', (execOp a.eval o).run P w = .ok (.enter f args) w' ∧ Calls P f args w' fun e w'' => ∃ u, e = .returned u ∧ ∃ s, T s ∧ Rep fr s (a.put o.dst u) w''
theorem EffX.wp {T : St → Prop} (h : EffX P fr o st T) {K : Act → World → Prop} {Q : Exit → Act → World → Prop} {a : Act} {w : World} (hr : Rep fr st a w) (hK : ∀ s, T s → ∀ a' w', Rep fr s a' w' → K a' w') : o.wp P a w K Q := by
  unfold Oper.wp
  obtain ⟨f, args, w', e, h'⟩ := h a w hr
  rw [e]; exact Calls.mono h' (fun e w'' ⟨u, e1, s, h1, h2⟩ => by subst e1; exact hK s h1 _ _ h2)
/-! Orders; what stands at the end may be one of several. -/
def ANx {α : Type} (P : Program) (fr : Fr) (ops : Array Oper) (fin : α → St) (fuel : Nat) (listed : Array Bool) (st : St) : Prop :=
  ∀ a w, Rep fr st a w → wpAny P .any ops (qn fun a w => ∃ x, Rep fr (fin x) a w) fuel listed a w
def Stpx {α : Type} (P : Program) (fr : Fr) (ops : Array Oper) (fin : α → St) (fuel : Nat) (listed : Array Bool) (st : St) (i : Nat) : Prop :=
  ∀ a w, Rep fr st a w → wpOp P ops (qn fun a w => ∃ x, Rep fr (fin x) a w) i (wpAny P .any ops (qn fun a w => ∃ x, Rep fr (fin x) a w) fuel (listed.setIfInBounds i true)) a w
variable {α : Type} {fin : α → St} {fuel : Nat} {listed : Array Bool}
theorem AC.drawAnyX {α : Type} {id : Nat} {l : List Oper} (fin : α → St) (hm : P.follows .mixedOrders = true) (h : ANx P fr l.toArray fin l.length (Array.replicate l.length false) st) (hk : ∀ x, AC P fr k (fin x)) :
    AC P fr (.code (.region id l.toArray true) :: k) st := by
  rintro a w ⟨η, φ, hr⟩
  have hd : Below w.heap.size w { w with drawn := w.drawn + 1 } := Below.drew (Below.refl _ _)
  refine wp_mono (wp_region_any (Q := qn fun a w => ∃ x, Rep fr (fin x) a w) hm ?_) (fun e a w ⟨e1, x, h'⟩ => by subst e1; exact hk x a w h')
  have := h a _ ⟨η, φ, hr.below hd⟩
  simpa using this
theorem AC.drawAnyC {α : Type} {id : Nat} {l : List Oper} (C : List (Nat × AV)) (CH : List (Nat × Res)) (V : α → List (Nat × AV)) (H : α → List (Nat × Res)) (hm : P.follows .mixedOrders = true)
    (h : ANx P fr l.toArray (fun x => ⟨V x ++ C, H x ++ CH⟩) l.length (Array.replicate l.length false) st) (hk : ∀ x, AC P fr k ⟨V x ++ C, H x ++ CH⟩) : AC P fr (.code (.region id l.toArray true) :: k) st := AC.drawAnyX _ hm h hk
theorem ANx.take (i : Nat) {o : Oper} {d : Nat} {av : AV} (ho : ops[i]? = some o) (hs : Region.noSelect ops = true) (hf : Region.free .any ops listed i = true) (hr : (Region.ready .any ops listed).contains i = true)
    (hd : o.dst = some d) (hg : o.guard = none) (hlt : Nat.blt d fr.nt = true) (hy : YldA P fr o st av) (h : ANx P fr ops fin fuel (listed.setIfInBounds i true) (st.put d av)) : ANx P fr ops fin (fuel + 1) listed st := by
  rintro a w ⟨η, φ, hr'⟩
  obtain ⟨u, h1, h2⟩ := hy η φ a w hr'
  exact wpAny_take ho hs hf hr (fun c a w h => by cases h.1) (.inl ⟨wanted_none hg _, h1⟩) (h _ _ ⟨η, φ, by rw [hd]; exact hr'.put hlt h2⟩)
theorem ANx.all {rs : List Nat} (hr : Region.ready .any ops listed = rs) (hne : rs.isEmpty = false) (h : AllI (Stpx P fr ops fin fuel listed st) rs) : ANx P fr ops fin (fuel + 1) listed st :=
  fun a w hr' => wpAny_all hr (by intro e; rw [e] at hne; cases hne) (fun i hi => h.spec i hi a w hr')
theorem Stpx.eff {i : Nat} {o : Oper} (ho : ops[i]? = some o) (hg : o.guard = none) (he : Eff P fr o st st') (h : ANx P fr ops fin fuel (listed.setIfInBounds i true) st') : Stpx P fr ops fin fuel listed st i := by
  intro a w hr
  unfold wpOp
  simp only [ho, wanted_none hg, if_true]
  exact .inl (he.wp hr h)
theorem Stpx.effX {i : Nat} {o : Oper} {T : St → Prop} (ho : ops[i]? = some o) (hg : o.guard = none) (he : EffX P fr o st T) (h : ∀ s, T s → ANx P fr ops fin fuel (listed.setIfInBounds i true) s) : Stpx P fr ops fin fuel listed st i := by
  intro a w hr
  unfold wpOp
  simp only [ho, wanted_none hg, if_true]
  exact .inl (he.wp hr h)
theorem ANx.doneC {C : List (Nat × AV)} {CH : List (Nat × Res)} {V : α → List (Nat × AV)} {H : α → List (Nat × Res)} (x : α) (hr : Region.ready .any ops listed = []) (hV : SubT st.tm (V x)) (hH : SubH st.hp (H x)) (hC : SubT st.tm C) (hCH : SubH st.hp CH) :
    ANx P fr ops (fun x => ⟨V x ++ C, H x ++ CH⟩) fuel listed st := by
  have subT : ∀ {tm l l' : List (Nat × AV)}, SubT tm l → SubT tm l' → SubT tm (l ++ l') := by
    intro tm l l' h h'
    induction l with
    | nil => exact h'
    | cons a l ih => exact ⟨h.1, ih h.2⟩
  have subH : ∀ {tm l l' : List (Nat × Res)}, SubH tm l → SubH tm l' → SubH tm (l ++ l') := by
    intro tm l l' h h'
    induction l with
    | nil => exact h'
    | cons a l ih => exact ⟨h.1, ih h.2⟩
  exact fun a w h => wpAny_done hr ⟨rfl, x, Le.intro (st' := ⟨V x ++ C, H x ++ CH⟩) (subT hV hC) (subH hH hCH) a w h⟩ fuel
theorem ANx.done (x : α) (hr : Region.ready .any ops listed = []) (hl : Le fr st (fin x)) : ANx P fr ops fin fuel listed st :=
  fun a w h => wpAny_done hr ⟨rfl, x, hl a w h⟩ fuel
end
section
variable {P : Program} {fr : Fr} {st : St} {d : Nat} {t : TypeId} {pos : String} {aft : Array Edge}

theorem Eff.append {ty e : TypeId} {x y : Operand} (id : Nat) {z : Value} {rs bytes : Nat} {av : AV} {rows rows2 : List (List PV)} (hs : P.underlying ty = some (.slice e)) (hi : TyIs P e z rs bytes)
    (hzs : Nat.beq z.cells.size rs = true) (hrs : Nat.blt 0 rs = true) (hx : st.ev x = some (.h id)) (hid : get st.hp id = some (.vec e rs rows)) (hy : st.ev y = some av) (hav : av.names id = false) (hrows : st.rowsOf av = some (rs, rows2))
    (hone : ∀ r ∈ rows2, ∀ q ∈ r, pvOne q = true)
    (hbytes : (2 * (rows.length + rows2.length) + 1000) * bytes ≤ 281474976710656) (hnm : rows.length + rows2.length ≤ 4611686018427387904) (hlt : Nat.blt d fr.nt = true) (hpin : get fr.pin id = none := by rfl) :
    Eff P fr ⟨some d, .call { callee := .builtin .append, args := #[x, y], argTypes := #[ty, ty] }, t, pos, aft, none⟩ st ⟨(d, .h id) :: dropT id st.tm, setR id (.vec e rs (rows ++ rows2)) (dropH id st.hp)⟩ := by
  rintro a w ⟨η, φ, hr⟩
  refine .inl ?_
  · skip
    have ex := hr.ev hx
    simp only [ARel] at ex
    obtain ⟨hr2, p, cap, us, ey, hul, hrel2, hcells⟩ := rowsOf_rel hrows hr (hr.ev hy)
    obtain ⟨xs, f1, f2, f3, f4⟩ := hr.res id _ hid
    obtain ⟨v', w', g1, g2, g3, g4, g5, g6, g7, g8⟩ := run_append (tr := t) (c := cap) hs hi (Nat.eq_of_beq_eq_true hzs) (Nat.le_of_ble_eq_true hrs) f3 (a := p) (m := rows2.length) (news := us) hul
      (by rcases hcells with h | ⟨b, o, h1, _, h2⟩
          · exact .inl (by rw [h]; rfl)
          · exact .inr ⟨b, o, h1, h2⟩)
      (pvOnes_spec _ us hrel2 (fun q hq => by obtain ⟨r, hr1, hr2⟩ := List.mem_flatten.1 hq; exact hone r hr1 q hr2)) hbytes hnm
    refine ⟨v', w', exec_append (by rw [ex, ey]; exact g1), ?_⟩
    have hd := hr.drop id
    have hg0 : get (dropH id st.hp) id = some (.vec e rs rows) := by rw [get_dropH, hid]; rfl
    rw [← f4] at g7
    have hch := hd.change id hg0 (.vec e rs (rows ++ rows2)) v' v'.ownBlock.toList g3 g4 g5 g6 g7 (by rw [← f4] at g8; exact g8)
      (.inr ⟨freshT_drop id st.tm, fun j r _ hg => by rw [get_dropH] at hg; obtain ⟨r0, _, rfl⟩ := Option.map_eq_some_iff.1 hg; exact Res.drop_names id r0, hpin⟩) (by
        have hSame : Same (SOf φ st.hp) w w' := ⟨g6, fun k hk hn => g7 k hk (fun h => hn ⟨id, _, hid, h⟩)⟩
        have hS : ∀ k, k < w.heap.size → SOf (upd φ id v'.ownBlock.toList) (setR id (.vec e rs (rows ++ rows2)) (dropH id st.hp)) k → SOf φ st.hp k := by
          rintro k hk ⟨i, r', hg, hm⟩
          rw [get_setR id _ _ _ hg0] at hg
          by_cases e1 : i = id
          · subst e1; rw [upd_self] at hm
            rcases (g8 k hm).1 with h | h
            · exact ⟨i, _, hid, by rw [f4]; exact h⟩
            · omega
          · rw [if_neg e1, get_dropH] at hg
            obtain ⟨r0, h0, _⟩ := Option.map_eq_some_iff.1 hg
            rw [upd_ne _ _ e1] at hm; exact ⟨i, r0, h0, hm⟩
        refine ⟨xs ++ us, ?_, ?_, ?_, rfl⟩
        · rw [List.flatten_append]
          exact relL_append _ _ _ _ (RelL.mono hSame hS _ _ f1) (RelL.mono hSame hS _ _ hrel2)
        · intro r hr'
          rcases List.mem_append.1 hr' with h | h
          · exact f2 r h
          · exact hr2 r h
        · rw [List.length_append]; exact g2)
    exact ⟨_, _, hch.put hlt (av := .h id) (by simp only [ARel]; rw [upd_self])⟩

theorem Eff.appendNil {ty e : TypeId} {x y : Operand} (id : Nat) {z : Value} {rs bytes : Nat} {av : AV} {rows2 : List (List PV)} (hs : P.underlying ty = some (.slice e)) (hi : TyIs P e z rs bytes)
    (hzs : Nat.beq z.cells.size rs = true) (hrs : Nat.blt 0 rs = true) (hx : st.ev x = some (.p (.v (.slice none 0 0)))) (hy : st.ev y = some av) (hrows : st.rowsOf av = some (rs, rows2))
    (hone : ∀ r ∈ rows2, ∀ q ∈ r, pvOne q = true)
    (hbytes : (2 * (0 + rows2.length) + 1000) * bytes ≤ 281474976710656) (hnm : 0 + rows2.length ≤ 4611686018427387904) (hf : st.fresh id = true) (hlt : Nat.blt d fr.nt = true) (hpin : get fr.pin id = none := by rfl) :
    Eff P fr ⟨some d, .call { callee := .builtin .append, args := #[x, y], argTypes := #[ty, ty] }, t, pos, aft, none⟩ st ⟨(d, .h id) :: st.tm, (id, .vec e rs rows2) :: st.hp⟩ := by
  rintro a w ⟨η, φ, hr⟩
  refine .inl ?_
  · skip
    have ex := hr.ev hx
    simp only [ARel, Rel] at ex
    obtain ⟨hr2, p, cap, us, ey, hul, hrel2, hcells⟩ := rowsOf_rel hrows hr (hr.ev hy)
    obtain ⟨v', w', g1, g2, g3, g4, g5, g6, g7, g8⟩ := run_append (tr := t) (c := cap) hs hi (Nat.eq_of_beq_eq_true hzs) (Nat.le_of_ble_eq_true hrs) (World.ownsRow_nil w 0 e rs) (a := p) (m := rows2.length) (news := us) hul
      (by rcases hcells with h | ⟨b, o, h1, _, h2⟩
          · exact .inl (by rw [h]; rfl)
          · exact .inr ⟨b, o, h1, h2⟩)
      (pvOnes_spec _ us hrel2 (fun q hq => by obtain ⟨r, hr1, hr2⟩ := List.mem_flatten.1 hq; exact hone r hr1 q hr2)) hbytes hnm
    refine ⟨v', w', exec_append (by rw [ex, ey]; exact g1), ?_⟩
    have hb : Below w.heap.size w w' := ⟨g3, g4, g5, g6, fun k hk => g7 k hk (by simp [Value.ownBlock])⟩
    have hres := hr.addPut hb id hf (.vec e rs rows2) v' v'.ownBlock.toList (fun k hk => by
        have := g8 k hk
        simpa [Value.ownBlock] using this) (by
        have hSame : Same (SOf φ st.hp) w w' := Same.of_below hb
        have hS : ∀ k, k < w.heap.size → SOf (upd φ id v'.ownBlock.toList) ((id, .vec e rs rows2) :: st.hp) k → SOf φ st.hp k := by
          rintro k hk ⟨i, r', hg, hm⟩
          rw [get_cons] at hg
          split at hg
          · next e1 =>
            subst e1; rw [upd_self] at hm
            have := (g8 k hm).1
            simp [Value.ownBlock] at this
            omega
          · next e1 => rw [upd_ne _ _ (fun h => e1 h.symm)] at hm; exact ⟨i, r', hg, hm⟩
        refine ⟨us, RelL.mono hSame hS _ _ hrel2, hr2, ?_, rfl⟩
        simpa using g2) hlt hpin
    exact ⟨_, _, hres⟩

theorem Eff.buildSlice {dd : Nat} {ty e' : TypeId} {n : Nat} {l : List (Nat × Operand)} (id : Nat) {z : Value} {rs bytes : Nat} {cs : List AV} {xs : List PV} {rows : List (List PV)} (hs : P.underlying ty = some (.slice e')) (hi : TyIs P e' z rs bytes) (_hzs : Nat.beq z.cells.size rs = true)
    (hrs : Nat.blt 0 rs = true) (hn : Nat.blt (n * rs) 1000000 = true) (hf : st.fillA (fun i => some (i * rs, rs)) (List.replicate (n * rs) .junk) l = some cs) (hp : pvs cs = some xs) (hxl : Nat.beq xs.length (n * rs) = true) (hch : chunk rs n xs = rows)
    (hfr : st.fresh id = true) (hlt : Nat.blt dd fr.nt = true) (hpin : get fr.pin id = none := by rfl) :
    Eff P fr ⟨some dd, .buildSlice ty n l.toArray, t, pos, aft, none⟩ st ⟨(dd, .h id) :: st.tm, (id, .vec e' rs rows) :: st.hp⟩ := by
  rintro a w ⟨η, φ, hr⟩
  refine .inl ?_
  · skip
    obtain ⟨i, h1, h2, h3, h4⟩ := info_parts hi
    obtain ⟨hrows, hnl, hrl⟩ := chunk_spec (rs := rs) n xs (Nat.eq_of_beq_eq_true hxl)
    rw [hch] at hrows hnl hrl
    have hn' : n * rs < 1000000 := Nat.le_of_ble_eq_true hn
    have hrs0 : 0 < rs := Nat.le_of_ble_eq_true hrs
    have hnn : n < 1000000 := by
      have : n * 1 ≤ n * rs := Nat.mul_le_mul_left n hrs0
      omega
    have e : (l.toArray.map (fun (i, x) => (i, a.eval x))).toList = l.map (fun (i, x) => (i, a.eval x)) := by simp
    have main : ∃ us : Array Value, (Instr.buildSlice ty n (l.toArray.map fun (i, x) => (i, a.eval x))).run P w = .ok (.slice (some ⟨w.heap.size, 0, none⟩) n n) (w.alloc (.cells us e')) ∧ ARelL η (SOf φ st.hp) w cs us.toList := by
      rcases Nat.eq_zero_or_pos n with h0 | h0
      · subst h0
        obtain ⟨us, g1, g2⟩ := fillA_rel hr l (List.replicate (0 * rs) .junk) cs #[] hf (by simp [ARelL])
        exact ⟨us, run_buildSlice0 hs h1 _ us w (by rw [h3, e]; exact g1), g2⟩
      · obtain ⟨us, g1, g2⟩ := fillA_rel hr l (List.replicate (n * rs) .junk) cs ((Array.range (n * rs)).map (z.cells[· % z.cells.size]!)) hf (by
          have := junkL (η := η) (S := SOf φ st.hp) (w := w) ((Array.range (n * rs)).map (z.cells[· % z.cells.size]!)).toList
          simpa using this)
        refine ⟨us, ?_, g2⟩
        have hpos : ¬ n * i.size = 0 := by rw [h3]; have := Nat.mul_pos h0 hrs0; omega
        exact run_buildSlice w ty e' n _ us i z hs h1 h2 (by rw [h3]; omega) hpos (by rw [h3, e]; exact g1)
    obtain ⟨us, g1, g2⟩ := main
    have hrel := pvs_rel cs xs _ hp g2
    rw [← hrows] at hrel
    have husl : us.size = n * rs := by
      have := relL_length _ _ hrel
      rw [flatten_length rows hrl, hnl] at this
      simpa using this
    have hb : Below w.heap.size w (w.alloc (.cells us e')) := (Below.refl _ _).alloc (Nat.le_refl _) _
    refine ⟨_, _, by simp only [execOp, Sem.run_bind, g1]; rfl, _, _, hr.addPut hb id hfr (.vec e' rs rows) (.slice (some ⟨w.heap.size, 0, none⟩) n n) [w.heap.size] (by simp) ⟨us.toList, ?_, hrl, ⟨?_, .inr ⟨w.heap.size, n, us, by rw [hnl], Nat.zero_le _, heap_alloc_new w _, by omega, by simp only [maxLen]; omega, husl, ?_⟩⟩, rfl⟩ hlt hpin⟩
    · refine RelL.mono (Same.of_below hb) ?_ _ _ hrel
      rintro k hk ⟨i, r', hg, hm⟩
      rw [get_cons] at hg
      split at hg
      · next e => subst e; rw [upd_self] at hm; simp at hm; omega
      · next e => rw [upd_ne _ _ (fun h => e h.symm)] at hm; exact ⟨i, r', hg, hm⟩
    · simp [husl, hnl]
    · rw [hnl, List.take_of_length_le (by simp [husl])]

end
section
variable {P : Program} {fr : Fr} {st : St} {d : Option Nat} {t : TypeId} {pos : String} {aft : Array Edge} {g : Option (Nat × Bool)}
theorem EffX.callW {α : Type} {x : Operand} {args : List Operand} {argTypes : Array TypeId} {f : FuncId} {cv : AV} {avs caps cargs : List AV} {hi : List (Nat × Res)} {kp : List Nat} {R : α → Prop} {r : α → AV} {ho : α → List (Nat × Res)}
    (ρ his hos : List Nat) (hx : st.ev x = some cv) (hcv : cv.fn = some (f, caps)) (hf : Enters P f) (ha : st.evL args = some avs) (hp : FnE P f cargs hi kp R r ho) (hmode : Mode st (rn ρ) hi cargs (avs ++ caps) r ho)
    (hhis : hi.map (·.1) = his) (hhos : ∀ x, (ho x).map (·.1) = hos) (hh : HasH st.hp (rn ρ) hi)
    (hb : (nodupB his && nodupB hos && nodupB (his.map (rn ρ)) && nodupB ((his ++ hos.filter fun i => !his.contains i).map (rn ρ)) && freshAll st ((hos.filter fun i => !his.contains i).map (rn ρ))
      && noneB fr.pin (((his.filter fun i => !kp.contains i) ++ hos.filter fun i => !his.contains i).map (rn ρ)) && !his.contains 900 && !hos.contains 900 && inBH his hi && AV.inBL his cargs && !kp.contains 900 && ltO fr.nt d) = true)
    (hino : ∀ x, inBH hos (ho x) = true) (hinr : ∀ x, (r x).inB hos = true) :
    EffX P fr ⟨d, .call { callee := .value x, args := args.toArray, argTypes := argTypes }, t, pos, aft, g⟩ st (fun s => ∃ x, R x ∧ s = (st.behindCall (rn ρ) his hos kp (ho x)).putO d ((r x).rnm (rn ρ))) := by
  intro a w ⟨η, φ, hr⟩
  simp only [Bool.and_eq_true, Bool.not_eq_true'] at hb
  obtain ⟨⟨⟨⟨⟨⟨⟨⟨⟨⟨⟨b1, b2⟩, b3⟩, b4⟩, b5⟩, b6⟩, b7⟩, b8⟩, b9⟩, b10⟩, b11⟩, b12⟩ := hb
  obtain ⟨us, e1, e2⟩ := fn_rel hcv (hr.ev hx)
  refine ⟨_, _, _, by rw [exec_call hf e1], ?_⟩
  have h1 := aRelL_append _ _ _ _ (evL_rel hr args avs ha) e2
  have hSall : ∀ k, SOf (fun i => φ (rn ρ i)) hi k → SOf φ st.hp k := by
    rintro k ⟨i, q, hg, hm⟩; exact ⟨_, _, hh.spec i q hg, hm⟩
  have hsame : ∀ {S}, Same S w w := ⟨Nat.le_refl _, fun _ _ _ => rfl⟩
  -- the blocks that the call is not to touch, and what follows
  have main : ∀ F0 : List Nat, (∀ k ∈ F0, st.Oth φ (his.map (rn ρ)) k) → ARelL (fun i => η (rn ρ i)) (fun k => SOf (fun i => φ (rn ρ i)) hi k ∨ k ∈ F0) w cargs (args.map a.eval ++ us.toList) →
      (∀ x (η' : Nat → Value) φ' w' i q, get (ho x) i = some q → RRes η' (fun k => SOf φ' (ho x) k ∨ k ∈ F0) w' (η' i) (φ' i) q → RRes η' (fun k => SOf φ' (ho x) k ∨ st.Oth φ (his.map (rn ρ)) k) w' (η' i) (φ' i) q) →
      (∀ x (η' : Nat → Value) φ' w' u, ARel η' (fun k => SOf φ' (ho x) k ∨ k ∈ F0) w' (r x) u → ARel η' (fun k => SOf φ' (ho x) k ∨ st.Oth φ (his.map (rn ρ)) k) w' (r x) u) →
      Calls P f ((args.map a.eval) ++ us.toList).toArray w (fun e w' => ∃ v, e = .returned v ∧ ∃ s, (∃ x, R x ∧ s = (st.behindCall (rn ρ) his hos kp (ho x)).putO d ((r x).rnm (rn ρ))) ∧ Rep fr s (a.put d v) w') := by
    intro F0 hF0 hargs hc1 hc2
    refine (FnE.use hp hr hhis hhos hh b3 b7 b8 b9 b10 b11 F0 hF0 hargs).mono fun e w' ⟨x, hR, u, η', φ', g1, g2, g3, g4, g5, g6, g7⟩ => ?_
    refine ⟨u, g1, ?_⟩
    have hcd := hr.called (ρ := rn ρ) (his := his) (hos := hos) (kp := kp) hhis (hhos x) hh b4 b2 b1 b5 b6 (hino x) g2 g5 g6 g7 (fun i q hg => hc1 x η' φ' w' i q hg (g4 i q hg))
    refine ⟨_, ⟨x, hR, rfl⟩, pickN (rn ρ) hos η' η, pickN (rn ρ) hos φ' φ, ?_⟩
    cases d with
    | none => simpa only [St.putO, Act.put] using hcd.1
    | some d => exact hcd.1.put b12 (hcd.2 (r x) (hinr x) u (hc2 x η' φ' w' u g3))
  cases hmode with
  | flat hpass hfr hfh =>
    refine main [] (by simp) ?_ (fun x η' φ' w' i q hg h => RRes.flat ((hfh x).spec i q hg) h) (fun x η' φ' w' u h => ARel.flat _ _ (hfr x) h)
    exact ARelL.mono hsame (fun k _ h => by rcases h with h | h; exact h; cases h) _ _ (fun _ _ => rfl) (hpass.rel hh hr _ h1)
  | own hav =>
    have hF : ∀ k, k ∈ ((st.hp.map (·.1)).filter fun j => !(his.map (rn ρ)).contains j).flatMap φ ↔ st.Oth φ (his.map (rn ρ)) k := by
      intro k
      rw [List.mem_flatMap]
      constructor
      · rintro ⟨j, h1, h2⟩
        obtain ⟨h3, h4⟩ := List.mem_filter.1 h1
        obtain ⟨q, hq⟩ := mem_map_get h3
        exact ⟨j, q, hq, by simpa using h4, h2⟩
      · rintro ⟨j, q, h1, h2, h3⟩
        exact ⟨j, List.mem_filter.2 ⟨List.mem_map.2 ⟨(j, q), mem_of_get h1, rfl⟩, by simpa using h2⟩, h3⟩
    refine main (((st.hp.map (·.1)).filter fun j => !(his.map (rn ρ)).contains j).flatMap φ) (fun k hk => (hF k).1 hk) ?_ ?_ ?_
    · rw [← hav] at h1
      refine (ARelL.rnm _ _).2 (ARelL.mono hsame (fun k _ h => ?_) _ _ (fun _ _ => rfl) h1)
      rcases h with h | h
      · exact hSall k h
      · obtain ⟨j, q, h1, _, h2⟩ := (hF k).1 h; exact ⟨j, q, h1, h2⟩
    · intro x η' φ' w' i q hg h
      exact RRes.mono ⟨Nat.le_refl _, fun _ _ _ => rfl⟩ (fun k _ h => h.imp (fun h => h) (fun h => (hF k).2 h)) (fun _ _ => rfl) q (fun _ _ => rfl) h
    · intro x η' φ' w' u h
      exact ARel.mono ⟨Nat.le_refl _, fun _ _ _ => rfl⟩ (fun k _ h => h.imp (fun h => h) (fun h => (hF k).2 h)) _ _ (fun _ _ => rfl) h


/-- Bits. -/
theorem Yld.shr {ty ty2 : TypeId} {x y : Operand} {kk : IntKind} {a b : Int} {yk : IntKind} (hx : st.ev x = some (.p (.v (.int kk a)))) (hy : st.ev y = some (.p (.v (.int yk b)))) (hb : ¬ b < 0) :
    Yld P fr ⟨d, .binOp .shr ty x y ty2, t, pos, aft, g⟩ st (.p (.v (.int kk (a.fdiv (2 ^ min b.toNat kk.bits))))) :=
  Yld.of_run fun _ _ A _ hr => ⟨.int kk (a.fdiv (2 ^ min b.toNat kk.bits)), fun w' _ => by
    have h1 := hr.ev hx
    have h2 := hr.ev hy
    simp only [ARel, Rel] at h1 h2
    simp [execOp, h1, h2, eqGuard, binOp, Op.shift, hb], by simp [ARel, Rel]⟩
theorem Yld.and {ty ty2 : TypeId} {x y : Operand} {kk : IntKind} {a b : Int} (hx : st.ev x = some (.p (.v (.int kk a)))) (hy : st.ev y = some (.p (.v (.int kk b)))) :
    Yld P fr ⟨d, .binOp .and ty x y ty2, t, pos, aft, g⟩ st (.p (.v (.int kk (kk.wrap ((BitVec.ofInt kk.bits a &&& BitVec.ofInt kk.bits b).toNat : Int))))) :=
  Yld.of_run fun _ _ A _ hr => ⟨.int kk (kk.wrap ((BitVec.ofInt kk.bits a &&& BitVec.ofInt kk.bits b).toNat : Int)), fun w' _ => by
    have h1 := hr.ev hx
    have h2 := hr.ev hy
    simp only [ARel, Rel] at h1 h2
    simp [execOp, h1, h2, eqGuard, binOp, Op.intBits], by simp [ARel, Rel]⟩
theorem byte_of (x : Int) : 0 ≤ IntKind.i64.wrap (IntKind.u64.wrap ((BitVec.ofInt IntKind.u64.bits x &&& BitVec.ofInt IntKind.u64.bits 255).toNat : Int)) ∧ IntKind.i64.wrap (IntKind.u64.wrap ((BitVec.ofInt IntKind.u64.bits x &&& BitVec.ofInt IntKind.u64.bits 255).toNat : Int)) ≤ 255 := by
  have h : (BitVec.ofInt IntKind.u64.bits x &&& BitVec.ofInt IntKind.u64.bits 255).toNat ≤ 255 := by
    rw [BitVec.toNat_and]
    refine Nat.le_trans Nat.and_le_right ?_
    decide
  have e1 : IntKind.u64.wrap ((BitVec.ofInt IntKind.u64.bits x &&& BitVec.ofInt IntKind.u64.bits 255).toNat : Int) = ((BitVec.ofInt IntKind.u64.bits x &&& BitVec.ofInt IntKind.u64.bits 255).toNat : Int) := by
    generalize (BitVec.ofInt IntKind.u64.bits x &&& BitVec.ofInt IntKind.u64.bits 255).toNat = n at h
    simp only [IntKind.wrap, IntKind.signed, IntKind.bits]
    simp; omega
  rw [e1, wrap_id (by omega) (by omega)]
  omega
end
end Go.V
