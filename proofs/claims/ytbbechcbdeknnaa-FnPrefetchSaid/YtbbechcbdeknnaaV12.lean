/- Regions that draw their order and act: the orders that differ are walked, the rest is taken first. -/
import Derived.Test.YtbbechcbdeknnaaV11
set_option linter.all false
namespace Go.V
open Go Go.RowKit

section
variable {P : Program} {fr : Fr} {st : St}
/-- In whatever world the operation yields one value. -/
def YldA (P : Program) (fr : Fr) (o : Oper) (st : St) (av : AV) : Prop :=
  ∀ η φ a w, RepE fr η φ st a w → ∃ u, (∀ w', (execOp a.eval o).run P w' = .ok (.value u) w') ∧ ARel η (SOf φ st.hp) w av u
theorem YldA.of_run {o : Oper} {av : AV} (h : ∀ η φ a w, RepE fr η φ st a w → ∃ u, (∀ w', True → (execOp a.eval o).run P w' = .ok (.value u) w') ∧ ARel η (SOf φ st.hp) w av u) : YldA P fr o st av :=
  fun η φ a w hr => let ⟨u, h1, h2⟩ := h η φ a w hr; ⟨u, fun w' => h1 w' trivial, h2⟩
variable {d : Option Tmp} {t : TypeId} {pos : String} {aft : Array Edge} {g : Option (Nat × Bool)}
theorem YldA.move {x : Operand} {av : AV} (hx : st.ev x = some av) : YldA P fr ⟨d, .move x, t, pos, aft, g⟩ st av :=
  YldA.of_run fun _ _ a _ hr => ⟨a.eval x, fun _ _ => rfl, hr.ev hx⟩
theorem YldA.assign {x : Operand} {av : AV} (hx : st.ev x = some av) : YldA P fr ⟨d, .assign x, t, pos, aft, g⟩ st av :=
  YldA.of_run fun _ _ a _ hr => ⟨a.eval x, fun _ _ => rfl, hr.ev hx⟩
theorem YldA.int {op : BinOp} {ty ty2 : TypeId} {x y : Operand} {k : IntKind} {a b : Int} {u : Value} (hx : st.ev x = some (.p (.v (.int k a)))) (hy : st.ev y = some (.p (.v (.int k b))))
    (hop : iop op k a b = some u) : YldA P fr ⟨d, .binOp op ty x y ty2, t, pos, aft, g⟩ st (.p (.v u)) :=
  YldA.of_run fun _ _ A _ hr => ⟨u, fun w' _ => by
    have h1 := hr.ev hx
    have h2 := hr.ev hy
    simp only [ARel, Rel] at h1 h2
    have := run_iop (P := P) hop ty x y w'
    simp only [execOp, h1, h2, Sem.run_bind, Sem.run_pure] at this ⊢
    rw [this]; rfl, by simp [ARel, Rel]⟩
theorem YldA.indexAddr {ty : TypeId} {x i : Operand} {av av' : AV} {rs n : Nat} {e : TypeId} {k : IntKind} {j : Int} (hs : P.underlying ty = some (.slice e)) (hsz : ∀ w, (sizeOf e).run P w = .ok rs w)
    (hx : st.ev x = some av) (hi : st.ev i = some (.p (.v (.int k j)))) (hb : st.rows av = some (rs, n)) (h0 : 0 ≤ j) (h1 : j < n) (hat : st.at j.toNat av = some av') :
    YldA P fr ⟨d, .indexAddr ty x i, t, pos, aft, g⟩ st av' :=
  YldA.of_run fun η φ A w hr => by
    have hrel := hr.ev hx
    have hj := hr.ev hi
    simp only [ARel, Rel] at hj
    have key : ∃ b o cap, A.eval x = .slice (some ⟨b, o, none⟩) n cap ∧ ARel η (SOf φ st.hp) w av' (.pointer (some ⟨b, o + j.toNat * rs, none⟩)) := by
      cases av with
      | p y =>
        cases y with
        | sl rs' rows =>
          simp only [St.rows, Option.some.injEq, Prod.mk.injEq] at hb
          obtain ⟨rfl, rfl⟩ := hb
          simp only [ARel, Rel] at hrel
          obtain ⟨a, cap, e1, e2, e3⟩ := hrel
          simp only [St.at] at hat
          cases hrow : rows[j.toNat]? with
          | none => rw [hrow] at hat; cases hat
          | some r =>
            rw [hrow] at hat
            simp only [Option.some.injEq] at hat; subst hat
            rcases e3 with e3 | ⟨b, o, rfl, e4, e5, e6⟩
            · subst e3; simp at hrow
            · exact ⟨b, o, cap, e1, by simp only [ARel, Rel]; exact ⟨b, o + j.toNat * rs', rfl, e4, e5, (relRows_getElem o rows _ r e6 hrow).2⟩⟩
        | _ => cases hb
      | h id =>
        simp only [St.rows] at hb
        simp only [St.at] at hat
        cases hg : get st.hp id with
        | none => rw [hg] at hb; cases hb
        | some r =>
          rw [hg] at hb hat
          cases r with
          | cust C => cases hb
          | box ty cs' => cases hb
          | vec ty rs' rows =>
            simp only [Option.some.injEq, Prod.mk.injEq] at hb
            obtain ⟨rfl, rfl⟩ := hb
            simp only [Option.some.injEq] at hat; subst hat
            obtain ⟨xs, e1, e2, e3, e4⟩ := hr.res id _ hg
            simp only [ARel] at hrel ⊢
            rcases e3.2 with ⟨ev, hn⟩ | ⟨g', cap, cur, ev, _⟩
            · omega
            · exact ⟨g', 0, cap, by rw [hrel, ev], g', by rw [ev]; rfl, by simp⟩
      | _ => cases hb
    obtain ⟨b, o, cap, e1, e2⟩ := key
    refine ⟨_, fun w' hw' => ?_, e2⟩
    simp [execOp, e1, hj, Instr.indexAt, asIntOf, run_underlying hs, h0, h1, hsz, add_plain]
theorem YldA.fieldAddr {s : TypeId} {x : Operand} {i : Nat} {av av' : AV} {cs : List AV} {fs : Array Field} {f : Field} {off n : Nat} (hs : P.underlying s = some (.struct fs)) (hf : fs[i]? = some f)
    (ho : f.offset = off) (hsz : ∀ w, (sizeOf f.type).run P w = .ok (n + 1) w) (hx : st.ev x = some av) (hb : st.behind av = some cs) (hav : av.field off = some av') :
    YldA P fr ⟨d, .fieldAddr s x i, t, pos, aft, g⟩ st av' :=
  YldA.of_run fun η φ A w hr => by
    have hrel := hr.ev hx
    obtain ⟨b, o, h1, h2, h3⟩ := behind_rel hb hr hrel
    refine ⟨.pointer (some ⟨b, o + off, none⟩), fun w' hw' => ?_, ?_⟩
    · simp [execOp, h1, Instr.fieldAt, run_underlying hs, hf, Instr.sureAddr, fieldPlace, hsz, ho, add_plain]
    · cases av with
      | p y =>
        cases y with
        | ptr cs' =>
          simp only [AV.field, Option.some.injEq] at hav; subst hav
          simp only [ARel, Rel] at hrel ⊢
          obtain ⟨b', o', e1, e2, e3, e4⟩ := hrel
          rw [e1] at h1
          simp only [Value.pointer.injEq, Option.some.injEq, Addr.mk.injEq, and_true] at h1
          obtain ⟨rfl, rfl⟩ := h1
          exact ⟨b', o' + off, rfl, e2, e3, relAt_drop off o' cs' e4⟩
        | _ => cases hav
      | h id =>
        simp only [AV.field, Option.some.injEq] at hav; subst hav
        simp only [ARel] at hrel ⊢
        simp only [St.behind] at hb
        cases hg : get st.hp id with
        | none => rw [hg] at hb; cases hb
        | some r =>
          rw [hg] at hb
          cases r with
          | box ty cs' =>
            obtain ⟨b', arr, e1, _⟩ := hr.res id _ hg
            rw [hrel, e1] at h1
            simp only [Value.pointer.injEq, Option.some.injEq, Addr.mk.injEq, and_true] at h1
            obtain ⟨rfl, rfl⟩ := h1
            exact ⟨b', by rw [e1]; rfl, by simp⟩
          | cust C => cases hb
          | vec ty rs rows => cases hb
      | el id rs row o' =>
        simp only [AV.field, Option.some.injEq] at hav; subst hav
        simp only [ARel] at hrel ⊢
        obtain ⟨b', e1, e2⟩ := hrel
        rw [e2] at h1
        simp only [Value.pointer.injEq, Option.some.injEq, Addr.mk.injEq, and_true] at h1
        obtain ⟨rfl, rfl⟩ := h1
        exact ⟨b', e1, by rw [Nat.add_assoc]⟩
      | _ => cases hav
theorem YldA.add {ty ty2 : TypeId} {x y : Operand} {a b : Int} (hx : st.ev x = some (.p (.v (.int .i64 a)))) (hy : st.ev y = some (.p (.v (.int .i64 b)))) (h1 : -9223372036854775808 ≤ a + b) (h2 : a + b ≤ 9223372036854775807) :
    YldA P fr ⟨d, .binOp .add ty x y ty2, t, pos, aft, g⟩ st (.p (.v (.int .i64 (a + b)))) :=
  YldA.int hx hy (by simp only [iop, wrap_id h1 h2])
theorem YldA.sub {ty ty2 : TypeId} {x y : Operand} {a b : Int} (hx : st.ev x = some (.p (.v (.int .i64 a)))) (hy : st.ev y = some (.p (.v (.int .i64 b)))) (h1 : -9223372036854775808 ≤ a - b) (h2 : a - b ≤ 9223372036854775807) :
    YldA P fr ⟨d, .binOp .sub ty x y ty2, t, pos, aft, g⟩ st (.p (.v (.int .i64 (a - b)))) :=
  YldA.int hx hy (by simp only [iop, wrap_id h1 h2])
theorem YldA.indexSl {ty : TypeId} {x i : Operand} {rs m : Nat} {e : TypeId} {kk : IntKind} {j : Int} {rows : List (List PV)} {r : List PV} (hs : P.underlying ty = some (.slice e)) (hsz : ∀ w, (sizeOf e).run P w = .ok rs w)
    (hx : st.ev x = some (.p (.sl rs rows))) (hi : st.ev i = some (.p (.v (.int kk j)))) (hr : rows[m]? = some r) (hj : j = m) :
    YldA P fr ⟨d, .indexAddr ty x i, t, pos, aft, g⟩ st (.p (.ptr r)) := by
  have hm : m < rows.length := (List.getElem?_eq_some_iff.1 hr).1
  subst hj
  exact YldA.indexAddr hs hsz hx hi (n := rows.length) rfl (by omega) (by omega) (by simp [St.at, hr])
theorem YldA.indexVec {ty ty' : TypeId} {x i : Operand} {rs m id : Nat} {e : TypeId} {kk : IntKind} {j : Int} {rows : List (List PV)} (hs : P.underlying ty = some (.slice e)) (hsz : ∀ w, (sizeOf e).run P w = .ok rs w)
    (hx : st.ev x = some (.h id)) (hg : get st.hp id = some (.vec ty' rs rows)) (hi : st.ev i = some (.p (.v (.int kk j)))) (hj : j = m) (hm : m < rows.length) :
    YldA P fr ⟨d, .indexAddr ty x i, t, pos, aft, g⟩ st (.el id rs m 0) := by
  subst hj
  exact YldA.indexAddr hs hsz hx hi (n := rows.length) (by simp [St.rows, hg]) (by omega) (by omega) (by simp [St.at, hg])
end

section
variable {P : Program} {fr : Fr} {st st' : St} {ops : Array Oper} {rest : List Oper} {k : List It} {o : Oper}

/-- What an operation does, whatever stands behind it. -/
def Eff (P : Program) (fr : Fr) (o : Oper) (st st' : St) : Prop := ∀ a w, Rep fr st a w →
  (∃ u w', (execOp a.eval o).run P w = .ok (.value u) w' ∧ Rep fr st' (a.put o.dst u) w') ∨
  (∃ w', (execOp a.eval o).run P w = .ok .skip w' ∧ Rep fr st' (a.put o.dst undef) w') ∨
  (∃ f args w', (execOp a.eval o).run P w = .ok (.enter f args) w' ∧ Calls P f args w' fun e w'' => ∃ u, e = .returned u ∧ Rep fr st' (a.put o.dst u) w'')

theorem Eff.wp (h : Eff P fr o st st') {K : Act → World → Prop} {Q : Exit → Act → World → Prop} {a : Act} {w : World} (hr : Rep fr st a w) (hK : ∀ a' w', Rep fr st' a' w' → K a' w') : o.wp P a w K Q := by
  unfold Oper.wp
  rcases h a w hr with ⟨u, w', e, h'⟩ | ⟨w', e, h'⟩ | ⟨f, args, w', e, h'⟩
  · rw [e]; exact hK _ _ h'
  · rw [e]; exact hK _ _ h'
  · rw [e]; exact Calls.mono h' (fun e w'' ⟨u, e1, h2⟩ => by subst e1; exact hK _ _ h2)

theorem AO.eff (hg : o.guard = none) (h : Eff P fr o st st') (hk : AO P fr ops rest k false st') : AO P fr ops (o :: rest) k false st := fun a w hr => by
  simp only [wpList, wanted_none hg, if_true]
  exact .inl (h.wp hr hk)

theorem Eff.yld {av : AV} {d : Nat} (hy : Yld P fr o st av) (hd : o.dst = some d) (hlt : Nat.blt d fr.nt = true) : Eff P fr o st (st.put d av) := by
  rintro a w ⟨η, φ, hr⟩
  obtain ⟨u, h1, h2⟩ := hy η φ a w hr
  have hq := h1 w (Below.refl _ _)
  unfold Oper.quietAt at hq
  generalize hg : (execOp a.eval o).run P w = r at hq
  cases r with
  | ok n w' =>
    cases n with
    | value x =>
      obtain ⟨rfl, rfl⟩ := hq
      exact .inl ⟨_, _, rfl, η, φ, by rw [hd]; exact hr.put hlt h2⟩
    | skip =>
      obtain ⟨rfl, rfl⟩ := hq
      exact .inr (.inl ⟨_, rfl, η, φ, by rw [hd]; exact hr.put hlt h2⟩)
    | enter f args =>
      obtain ⟨rfl, hc⟩ := hq
      refine .inr (.inr ⟨f, args, w', rfl, hc.mono fun e w'' ⟨e1, e2⟩ => ⟨u, e1, η, φ, ?_⟩⟩)
      have h2' : ARel η (SOf φ st.hp) w'' av u := ARel.mono (Same.of_below e2) (fun _ _ h => h) _ _ (fun _ _ => rfl) h2
      rw [hd]; exact (hr.below e2).put hlt h2'
    | _ => exact hq.elim
  | halt x w' => exact hq.elim

variable {d : Nat} {t : TypeId} {pos : String} {aft : Array Edge}
theorem Eff.alloc {ty : TypeId} (id : Nat) {z : Value} {cs : List PV} (hz : ∀ w, (zeroValue ty).run P w = .ok z w) (hc : z.cells.toList.map zpv = cs) (hf : st.fresh id = true) (hlt : Nat.blt d fr.nt = true) (hpin : get fr.pin id = none := by rfl) :
    Eff P fr ⟨some d, .alloc ty, t, pos, aft, none⟩ st ⟨(d, .h id) :: st.tm, (id, .box ty (cs.map .p)) :: st.hp⟩ :=
  fun a w ⟨η, φ, hr⟩ => .inl ⟨_, _, by simp [execOp, Instr.alloc, hz, newVar, newRow], hr.box id hf ty (cs.map .p) z.cells
    (namesL_map id cs) (relL_map cs _ (hc ▸ zpvs_rel _ _ _)) hlt hpin⟩
theorem Eff.store {ty : TypeId} {x y : Operand} {av vv : AV} {vs : List AV} {n id : Nat} {r' : Res} (hsz : ∀ w, (sizeOf ty).run P w = .ok n w) (hx : st.ev x = some av) (hy : st.ev y = some vv)
    (hc : st.cellsOf vv = some vs) (hn : Nat.beq vs.length n = true) (ho : st.ones vs = true) (hs : st.store vs av = some (id, r')) :
    Eff P fr ⟨none, .store ty x y, t, pos, aft, none⟩ st ⟨st.tm, setR id r' st.hp⟩ :=
  fun a w ⟨η, φ, hr⟩ => by
    obtain ⟨w', h1, h2⟩ := hr.store hs (hr.ev hx) (cellsOf_rel hc hr (hr.ev hy)) hsz (Nat.eq_of_beq_eq_true hn) ho
    exact .inr (.inl ⟨w', by simp [execOp, h1], η, φ, h2⟩)

/-! The orders of a region. -/
def qn (K : Act → World → Prop) : Exit → Act → World → Prop := fun e a w => e = .normal ∧ K a w
def AN (P : Program) (fr : Fr) (ops : Array Oper) (fin : St) (fuel : Nat) (listed : Array Bool) (st : St) : Prop :=
  ∀ a w, Rep fr st a w → wpAny P .any ops (qn (Rep fr fin)) fuel listed a w
def Stp (P : Program) (fr : Fr) (ops : Array Oper) (fin : St) (fuel : Nat) (listed : Array Bool) (st : St) (i : Nat) : Prop :=
  ∀ a w, Rep fr st a w → wpOp P ops (qn (Rep fr fin)) i (wpAny P .any ops (qn (Rep fr fin)) fuel (listed.setIfInBounds i true)) a w
def AllI (p : Nat → Prop) : List Nat → Prop
  | [] => True
  | i :: l => p i ∧ AllI p l
theorem AllI.spec {p : Nat → Prop} : ∀ {l : List Nat}, AllI p l → ∀ i ∈ l, p i
  | [], _, _, h => by cases h
  | j :: l, ⟨h1, h2⟩, i, h => by
    rcases List.mem_cons.1 h with rfl | h
    · exact h1
    · exact AllI.spec h2 i h

variable {fin : St} {fuel : Nat} {listed : Array Bool}
theorem AC.drawAny {id : Nat} {l : List Oper} (fin : St) (hm : P.follows .mixedOrders = true) (h : AN P fr l.toArray fin l.length (Array.replicate l.length false) st) (hk : AC P fr k fin) :
    AC P fr (.code (.region id l.toArray true) :: k) st := by
  rintro a w ⟨η, φ, hr⟩
  have hd : Below w.heap.size w { w with drawn := w.drawn + 1 } := Below.drew (Below.refl _ _)
  refine wp_mono (wp_region_any (Q := qn (Rep fr fin)) hm ?_) (fun e a w ⟨e1, h'⟩ => by subst e1; exact hk a w h')
  have := h a _ ⟨η, φ, hr.below hd⟩
  simpa using this
theorem AN.take (i : Nat) {o : Oper} {d : Nat} {av : AV} (ho : ops[i]? = some o) (hs : Region.noSelect ops = true) (hf : Region.free .any ops listed i = true) (hr : (Region.ready .any ops listed).contains i = true)
    (hd : o.dst = some d) (hg : o.guard = none) (hlt : Nat.blt d fr.nt = true) (hy : YldA P fr o st av) (h : AN P fr ops fin fuel (listed.setIfInBounds i true) (st.put d av)) : AN P fr ops fin (fuel + 1) listed st := by
  rintro a w ⟨η, φ, hr'⟩
  obtain ⟨u, h1, h2⟩ := hy η φ a w hr'
  exact wpAny_take ho hs hf hr (fun c a w h => by cases h.1) (.inl ⟨wanted_none hg _, h1⟩) (h _ _ ⟨η, φ, by rw [hd]; exact hr'.put hlt h2⟩)
theorem AN.all {rs : List Nat} (hr : Region.ready .any ops listed = rs) (hne : rs.isEmpty = false) (h : AllI (Stp P fr ops fin fuel listed st) rs) : AN P fr ops fin (fuel + 1) listed st :=
  fun a w hr' => wpAny_all hr (by intro e; rw [e] at hne; cases hne) (fun i hi => h.spec i hi a w hr')
theorem Stp.eff {i : Nat} {o : Oper} (ho : ops[i]? = some o) (hg : o.guard = none) (he : Eff P fr o st st') (h : AN P fr ops fin fuel (listed.setIfInBounds i true) st') : Stp P fr ops fin fuel listed st i := by
  intro a w hr
  unfold wpOp
  simp only [ho, wanted_none hg, if_true]
  exact .inl (he.wp hr h)
theorem AN.done (hr : Region.ready .any ops listed = []) (hl : Le fr st fin) : AN P fr ops fin fuel listed st :=
  fun a w h => wpAny_done hr ⟨rfl, hl a w h⟩ fuel
end
end Go.V
