/- The calculus' rules for operations that read memory. -/
import Derived.Test.YtbbechcbdeknnaaV2
set_option linter.all false
namespace Go.V
open Go Go.RowKit

section
variable {P : Program} {fr : Fr} {st : St}
variable {d : Option Tmp} {t : TypeId} {pos : String} {aft : Array Edge} {g : Option (Nat × Bool)}

theorem add_plain (b o n : Nat) : (⟨b, o, none⟩ : Addr).add n = ⟨b, o + n, none⟩ := by
  unfold Addr.add; split
  · next h => subst h; rfl
  · rfl

/-! What a value that is an address points to. -/

theorem relAt_getElem {S : Nat → Prop} {w : World} {b : Nat} : ∀ (o : Nat) (cs : List PV) (i : Nat) (c : PV), RelAt S w b o cs → cs[i]? = some c → ∃ u, w.cell? ⟨b, o + i, none⟩ = some u ∧ Rel S w c u
  | _, [], _, _, _, h => by simp at h
  | o, c :: cs, i, c', h, hc => by
    simp only [RelAt] at h
    cases i with
    | zero => simp at hc; subst hc; simpa using h.1
    | succ i =>
      simp at hc
      obtain ⟨u, h1, h2⟩ := relAt_getElem (o + 1) cs i c' h.2 hc
      exact ⟨u, by rw [show o + (i + 1) = o + 1 + i by omega]; exact h1, h2⟩

theorem relAt_drop {S : Nat → Prop} {w : World} {b : Nat} : ∀ (n o : Nat) (cs : List PV), RelAt S w b o cs → RelAt S w b (o + n) (cs.drop n)
  | 0, o, cs, h => by simpa using h
  | n + 1, o, [], _ => by simp [RelAt]
  | n + 1, o, c :: cs, h => by
    simp only [RelAt] at h
    have := relAt_drop n (o + 1) cs h.2
    rw [show o + (n + 1) = o + 1 + n by omega]
    simpa using this

theorem relRows_getElem {S : Nat → Prop} {w : World} {b rs : Nat} : ∀ (o : Nat) (rows : List (List PV)) (i : Nat) (r : List PV), RelRows S w b rs o rows → rows[i]? = some r → r.length = rs ∧ RelAt S w b (o + i * rs) r
  | _, [], _, _, _, h => by simp at h
  | o, r :: rows, i, r', h, hr => by
    simp only [RelRows] at h
    cases i with
    | zero => simp at hr; subst hr; exact ⟨h.1, by simpa using h.2.1⟩
    | succ i =>
      simp at hr
      have := relRows_getElem (o + rs) rows i r' h.2.2 hr
      rw [show o + (i + 1) * rs = o + rs + i * rs by rw [Nat.add_mul]; omega]
      exact this

theorem relRows_drop {S : Nat → Prop} {w : World} {b rs : Nat} : ∀ (n o : Nat) (rows : List (List PV)), RelRows S w b rs o rows → RelRows S w b rs (o + n * rs) (rows.drop n)
  | 0, o, rows, h => by simpa using h
  | n + 1, o, [], _ => by simp [RelRows]
  | n + 1, o, r :: rows, h => by
    simp only [RelRows] at h
    have := relRows_drop n (o + rs) rows h.2.2
    rw [show o + (n + 1) * rs = o + rs + n * rs by rw [Nat.add_mul]; omega]
    simpa using this

theorem relRows_take {S : Nat → Prop} {w : World} {b rs : Nat} : ∀ (n o : Nat) (rows : List (List PV)), RelRows S w b rs o rows → RelRows S w b rs o (rows.take n)
  | 0, o, rows, _ => by simp [RelRows]
  | n + 1, o, [], _ => by simp [RelRows]
  | n + 1, o, r :: rows, h => by
    simp only [RelRows] at h
    simp only [List.take_succ_cons, RelRows]
    exact ⟨h.1, h.2.1, relRows_take n (o + rs) rows h.2.2⟩

/-- The cells from an address on. -/
def ARelAt (η : Nat → Value) (S : Nat → Prop) (w : World) (b : Nat) : Nat → List AV → Prop
  | _, [] => True
  | o, c :: cs => (∃ u, w.cell? ⟨b, o, none⟩ = some u ∧ ARel η S w c u) ∧ ARelAt η S w b (o + 1) cs

theorem aRelAt_of_relAt {η : Nat → Value} {S : Nat → Prop} {w : World} {b : Nat} : ∀ (o : Nat) (cs : List PV), RelAt S w b o cs → ARelAt η S w b o (cs.map .p)
  | _, [], _ => by simp [ARelAt]
  | o, c :: cs, h => by
    simp only [RelAt] at h
    simp only [List.map_cons, ARelAt, ARel]
    exact ⟨h.1, aRelAt_of_relAt (o + 1) cs h.2⟩

theorem aRelAt_of_list {η : Nat → Value} {S : Nat → Prop} {w : World} {b : Nat} (arr : Array Value) (ty : TypeId) (hb : w.heap[b]? = some (.cells arr ty (0, 0))) :
    ∀ (cs : List AV) (o : Nat) (us : List Value), arr.toList.drop o = us → ARelL η S w cs us → ARelAt η S w b o cs
  | [], _, _, _, _ => by simp [ARelAt]
  | c :: cs, o, us, hd, h => by
    simp only [ARelL] at h
    obtain ⟨u, us', rfl, h2, h3⟩ := h
    have h0 : arr.toList[o]? = some u := by
      have := congrArg (fun l : List Value => l[0]?) hd
      simpa [List.getElem?_drop] using this
    refine ⟨⟨u, ?_, h2⟩, aRelAt_of_list arr ty hb cs (o + 1) us' ?_ h3⟩
    · rw [cell_of_row w b o arr ty (0, 0) hb]; simpa using h0
    · have := congrArg (List.drop 1) hd
      simpa [List.drop_drop, Nat.add_comm] using this

theorem aRelAt_drop {η : Nat → Value} {S : Nat → Prop} {w : World} {b : Nat} : ∀ (n o : Nat) (cs : List AV), ARelAt η S w b o cs → ARelAt η S w b (o + n) (cs.drop n)
  | 0, o, cs, h => by simpa using h
  | n + 1, o, [], _ => by simp [ARelAt]
  | n + 1, o, c :: cs, h => by
    simp only [ARelAt] at h
    have := aRelAt_drop n (o + 1) cs h.2
    rw [show o + (n + 1) = o + 1 + n by omega]
    simpa using this

theorem aRelAt_take {η : Nat → Value} {S : Nat → Prop} {w : World} {b : Nat} : ∀ (n o : Nat) (cs : List AV), ARelAt η S w b o cs → ARelAt η S w b o (cs.take n)
  | 0, o, cs, _ => by simp [ARelAt]
  | n + 1, o, [], _ => by simp [ARelAt]
  | n + 1, o, c :: cs, h => by
    simp only [ARelAt] at h
    simp only [List.take_succ_cons, ARelAt]
    exact ⟨h.1, aRelAt_take n (o + 1) cs h.2⟩

/-- What lies behind an address: the cells from there on (of one row). -/
def St.behind (st : St) : AV → Option (List AV)
  | .p (.ptr cs) => some (cs.map .p)
  | .h id => match get st.hp id with
    | some (.box _ cs) => some cs
    | _ => none
  | .el id rs row off => match get st.hp id with
    | some (.box _ cs) => match row with
      | 0 => some (cs.drop off)
      | _ + 1 => none
    | some (.vec _ rs' rows) => match Nat.beq rs' rs with
      | true => match rows[row]? with
        | some r => some ((r.drop off).map .p)
        | none => none
      | false => none
    | _ => none
  | _ => none

theorem relL_flatten {S : Nat → Prop} {w : World} {rs : Nat} : ∀ (rows : List (List PV)) (xs : List Value), RelL S w rows.flatten xs → (∀ r ∈ rows, r.length = rs) →
    ∀ i r, rows[i]? = some r → RelL S w r ((xs.drop (i * rs)).take rs)
  | [], _, _, _, i, r, hr => by simp at hr
  | r0 :: rows, xs, h, hl, i, r, hr => by
    have split : ∀ (l1 l2 : List PV) (us : List Value), RelL S w (l1 ++ l2) us → RelL S w l1 (us.take l1.length) ∧ RelL S w l2 (us.drop l1.length) := by
      intro l1
      induction l1 with
      | nil => intro l2 us h; simpa [RelL] using h
      | cons c l1 ih =>
        intro l2 us h
        simp only [List.cons_append, RelL] at h
        obtain ⟨u, us', rfl, h2, h3⟩ := h
        have := ih l2 us' h3
        simp only [List.length_cons, List.take_succ_cons, List.drop_succ_cons, RelL]
        exact ⟨⟨u, _, rfl, h2, this.1⟩, this.2⟩
    rw [List.flatten_cons] at h
    obtain ⟨h1, h2⟩ := split r0 rows.flatten xs h
    have hr0 : r0.length = rs := hl r0 (by simp)
    rw [hr0] at h1 h2
    cases i with
    | zero => simp at hr; subst hr; simpa using h1
    | succ i =>
      simp at hr
      have := relL_flatten rows (xs.drop rs) h2 (fun r hr => hl r (by simp [hr])) i r hr
      rw [List.drop_drop] at this
      rw [show (i + 1) * rs = rs + i * rs by rw [Nat.add_mul]; omega]
      exact this

theorem relAt_of_relL {S : Nat → Prop} {w : World} {b : Nat} : ∀ (cs : List PV) (o : Nat) (us : List Value), (∀ j u, us[j]? = some u → w.cell? ⟨b, o + j, none⟩ = some u) → RelL S w cs us → RelAt S w b o cs
  | [], _, _, _, _ => by simp [RelAt]
  | c :: cs, o, us, hu, h => by
    simp only [RelL] at h
    obtain ⟨u, us', rfl, h2, h3⟩ := h
    refine ⟨⟨u, by simpa using hu 0 u (by simp), h2⟩, relAt_of_relL cs (o + 1) us' (fun j u hj => ?_) h3⟩
    have := hu (j + 1) u (by simpa using hj)
    rw [show o + 1 + j = o + (j + 1) by omega]; exact this

/-- A row of an own vector, at its place. -/
theorem RRes.row {η : Nat → Value} {S : Nat → Prop} {w : World} {hd : Value} {F : List Nat} {ty : TypeId} {rs : Nat} {rows : List (List PV)} (h : RRes η S w hd F (.vec ty rs rows))
    {i : Nat} {r : List PV} (hr : rows[i]? = some r) {b : Nat} (hb : blk hd = some b) : RelAt S w b (i * rs) r := by
  obtain ⟨xs, h1, h2, h3, h4⟩ := h
  have hrel := relL_flatten rows xs h1 h2 i r hr
  have hil : i < rows.length := (List.getElem?_eq_some_iff.1 hr).1
  refine relAt_of_relL r (i * rs) _ (fun j u hj => ?_) hrel
  have hown : hd.ownBlock = some b := by
    rcases h3.2 with ⟨rfl, hn⟩ | ⟨g, cap, cur, rfl, _⟩
    · omega
    · simpa [Value.ownBlock, blk] using hb
  rw [List.getElem?_take] at hj
  split at hj
  · rw [List.getElem?_drop] at hj
    have := h3.cells hown (i * rs + j) u hj
    rwa [add_plain, Nat.zero_add] at this
  · cases hj

theorem behind_rel {st : St} {av : AV} {cs : List AV} (hb : st.behind av = some cs) {η : Nat → Value} {φ : Nat → List Nat} {a : Act} {w : World} (hr : RepE fr η φ st a w) {u : Value}
    (h : ARel η (SOf φ st.hp) w av u) : ∃ b o, u = .pointer (some ⟨b, o, none⟩) ∧ b < w.heap.size ∧ ARelAt η (SOf φ st.hp) w b o cs := by
  cases av with
  | p x =>
    cases x with
    | ptr cs' =>
      simp only [St.behind, Option.some.injEq] at hb; subst hb
      simp only [ARel, Rel] at h
      obtain ⟨b, o, h1, _, h3, h4⟩ := h
      exact ⟨b, o, h1, h3, aRelAt_of_relAt o cs' h4⟩
    | _ => cases hb
  | h id =>
    simp only [St.behind] at hb
    cases hg : get st.hp id with
    | none => rw [hg] at hb; cases hb
    | some r =>
      rw [hg] at hb
      cases r with
      | box ty cs' =>
        simp only [Option.some.injEq] at hb; subst hb
        obtain ⟨b, arr, h1, h2, h3, h4⟩ := hr.res id _ hg
        simp only [ARel] at h
        exact ⟨b, 0, h.trans h1, hr.lt id _ b hg (by simp [h2]), aRelAt_of_list arr ty h3 cs' 0 arr.toList (by simp) h4⟩
      | cust C => cases hb
      | vec ty rs rows => cases hb
  | el id rs row off =>
    simp only [St.behind] at hb
    simp only [ARel] at h
    obtain ⟨b, hbk, rfl⟩ := h
    cases hg : get st.hp id with
    | none => rw [hg] at hb; cases hb
    | some r =>
      rw [hg] at hb
      cases r with
      | box ty cs' =>
        cases row with
        | zero =>
          simp only [Option.some.injEq] at hb; subst hb
          obtain ⟨b', arr, h1, h2, h3, h4⟩ := hr.res id _ hg
          rw [h1] at hbk
          simp only [blk, Option.some.injEq] at hbk; subst hbk
          refine ⟨b', 0 * rs + off, rfl, hr.lt id _ b' hg (by simp [h2]), ?_⟩
          have := aRelAt_drop off 0 cs' (aRelAt_of_list arr ty h3 cs' 0 arr.toList (by simp) h4)
          simpa using this
        | succ n => cases hb
      | cust C => cases hb
      | vec ty rs' rows =>
        simp only at hb
        cases hbe : Nat.beq rs' rs with
        | false => rw [hbe] at hb; cases hb
        | true =>
          rw [hbe] at hb
          obtain rfl := Nat.eq_of_beq_eq_true hbe
          cases hrow : rows[row]? with
          | none => simp only [hrow] at hb; cases hb
          | some r =>
            simp only [hrow, Option.some.injEq] at hb; subst hb
            have hR := hr.res id _ hg
            refine ⟨b, row * rs' + off, rfl, ?_, aRelAt_of_relAt _ _ (relAt_drop off _ r (hR.row hrow hbk))⟩
            obtain ⟨xs, h1, h2, h3, h4⟩ := hR
            refine hr.lt id _ b hg ?_
            rw [h4]
            rcases h3.2 with ⟨e, hn⟩ | ⟨g', cap, cur, e, _⟩
            · rw [e] at hbk; simp [blk] at hbk
            · rw [e] at hbk ⊢; simpa [blk, Value.ownBlock, eq_comm] using hbk
  | _ => cases hb

theorem aRelAt_getElem {η : Nat → Value} {S : Nat → Prop} {w : World} {b : Nat} : ∀ (o : Nat) (cs : List AV) (i : Nat) (c : AV), ARelAt η S w b o cs → cs[i]? = some c → ∃ u, w.cell? ⟨b, o + i, none⟩ = some u ∧ ARel η S w c u
  | _, [], _, _, _, h => by simp at h
  | o, c :: cs, i, c', h, hc => by
    simp only [ARelAt] at h
    cases i with
    | zero => simp at hc; subst hc; simpa using h.1
    | succ i =>
      simp at hc
      obtain ⟨u, h1, h2⟩ := aRelAt_getElem (o + 1) cs i c' h.2 hc
      exact ⟨u, by rw [show o + (i + 1) = o + 1 + i by omega]; exact h1, h2⟩

theorem aRelAt_list {η : Nat → Value} {S : Nat → Prop} {w : World} {b : Nat} : ∀ (o : Nat) (cs : List AV), ARelAt η S w b o cs →
    ∃ us : List Value, us.length = cs.length ∧ (∀ j u, us[j]? = some u → w.cell? ⟨b, o + j, none⟩ = some u) ∧ ARelL η S w cs us
  | _, [], _ => ⟨[], rfl, by simp, by simp [ARelL]⟩
  | o, c :: cs, h => by
    simp only [ARelAt] at h
    obtain ⟨⟨u, h1, h2⟩, h3⟩ := h
    obtain ⟨us, e, h4, h5⟩ := aRelAt_list (o + 1) cs h3
    refine ⟨u :: us, by simp [e], fun j v hj => ?_, by simp only [ARelL]; exact ⟨u, us, rfl, h2, h5⟩⟩
    cases j with
    | zero => simp at hj; subst hj; simpa using h1
    | succ j => simp at hj; have := h4 j v hj; rwa [show o + (j + 1) = o + 1 + j by omega]

theorem below_cell {w w' : World} (hb : Below w.heap.size w w') {b o : Nat} (hlt : b < w.heap.size) : w'.cell? ⟨b, o, none⟩ = w.cell? ⟨b, o, none⟩ := hb.cell (p := ⟨b, o, none⟩) hlt

/-- Loading one cell. -/
theorem Yld.load {ty : TypeId} {x : Operand} {av c : AV} {cs : List AV} (hagg : ∀ w, (isAgg ty).run P w = .ok false w) (hx : st.ev x = some av) (hb : st.behind av = some (c :: cs)) :
    Yld P fr ⟨d, .load ty x, t, pos, aft, g⟩ st c :=
  Yld.of_run fun _ _ A w hr => by
    obtain ⟨b, o, h1, h2, h3⟩ := behind_rel hb hr (hr.ev hx)
    obtain ⟨u, h4, h5⟩ := h3.1
    refine ⟨u, fun w' hw' => ?_, h5⟩
    have h4' := (below_cell hw' (o := o) h2).trans h4
    simp [execOp, h1, Instr.loadAt, Instr.sureAddr, loadVar, hagg, h4']

/-- Loading a struct. -/
theorem Yld.loadAgg {ty : TypeId} {x : Operand} {av : AV} {cs cs' : List AV} {n : Nat} (hagg : ∀ w, (isAgg ty).run P w = .ok true w) (hsz : ∀ w, (sizeOf ty).run P w = .ok n w)
    (hx : st.ev x = some av) (hb : st.behind av = some cs) (hc : cs.take n = cs') (hn : Nat.beq cs'.length n = true) :
    Yld P fr ⟨d, .load ty x, t, pos, aft, g⟩ st (.agg cs') :=
  Yld.of_run fun _ _ A w hr => by
    obtain ⟨b, o, h1, h2, h3⟩ := behind_rel hb hr (hr.ev hx)
    obtain ⟨us, e, h4, h5⟩ := aRelAt_list o cs' (hc ▸ aRelAt_take n o cs h3)
    refine ⟨.agg us.toArray, fun w' hw' => ?_, by simp only [ARel]; exact ⟨us.toArray, rfl, by simpa using h5⟩⟩
    have hl : us.length = n := e.trans (Nat.eq_of_beq_eq_true hn)
    have := run_loadCells_list (P := P) w' ⟨b, o, none⟩ us (fun j v hj => by rw [add_plain, below_cell hw' h2]; exact h4 j v hj)
    rw [hl] at this
    simp [execOp, h1, Instr.loadAt, Instr.sureAddr, loadVar, hagg, hsz, this]

theorem Yld.nilCheck {x : Operand} {av : AV} {cs : List AV} (hx : st.ev x = some av) (hb : st.behind av = some cs) :
    Yld P fr ⟨d, .nilCheck x, t, pos, aft, g⟩ st av :=
  Yld.of_run fun _ _ A w hr => by
    obtain ⟨b, o, h1, h2, h3⟩ := behind_rel hb hr (hr.ev hx)
    refine ⟨A.eval x, fun w' hw' => ?_, hr.ev hx⟩
    simp [execOp, h1]

/-- The address of a field. -/
def AV.field (off : Nat) : AV → Option AV
  | .p (.ptr cs) => some (.p (.ptr (cs.drop off)))
  | .h id => some (.el id 0 0 off)
  | .el id rs row o => some (.el id rs row (o + off))
  | _ => none

theorem Yld.fieldAddr {s : TypeId} {x : Operand} {i : Nat} {av av' : AV} {cs : List AV} {fs : Array Field} {f : Field} {off n : Nat} (hs : P.underlying s = some (.struct fs)) (hf : fs[i]? = some f)
    (ho : f.offset = off) (hsz : ∀ w, (sizeOf f.type).run P w = .ok (n + 1) w) (hx : st.ev x = some av) (hb : st.behind av = some cs) (hav : av.field off = some av') :
    Yld P fr ⟨d, .fieldAddr s x i, t, pos, aft, g⟩ st av' :=
  Yld.of_run fun η φ A w hr => by
    have hrel := hr.ev hx
    obtain ⟨b, o, h1, h2, h3⟩ := behind_rel hb hr hrel
    refine ⟨.pointer (some ⟨b, o + off, none⟩), fun w' hw' => ?_, ?_⟩
    · simp [execOp, h1, Instr.fieldAt, run_underlying hs, hf, Instr.sureAddr, fieldPlace, hsz, ho, add_plain]
    · cases av with
      | p y =>
        cases y with
        | ptr cs' =>
          simp only [AV.field, Option.some.injEq] at hav; subst hav
          simp only [ARel, Rel] at hrel ⊢
          obtain ⟨b', o', e1, e2, e3, e4⟩ := hrel
          rw [e1] at h1
          simp only [Value.pointer.injEq, Option.some.injEq, Addr.mk.injEq, and_true] at h1
          obtain ⟨rfl, rfl⟩ := h1
          exact ⟨b', o' + off, rfl, e2, e3, relAt_drop off o' cs' e4⟩
        | _ => cases hav
      | h id =>
        simp only [AV.field, Option.some.injEq] at hav; subst hav
        simp only [ARel] at hrel ⊢
        simp only [St.behind] at hb
        cases hg : get st.hp id with
        | none => rw [hg] at hb; cases hb
        | some r =>
          rw [hg] at hb
          cases r with
          | box ty cs' =>
            obtain ⟨b', arr, e1, _⟩ := hr.res id _ hg
            rw [hrel, e1] at h1
            simp only [Value.pointer.injEq, Option.some.injEq, Addr.mk.injEq, and_true] at h1
            obtain ⟨rfl, rfl⟩ := h1
            exact ⟨b', by rw [e1]; rfl, by simp⟩
          | cust C => cases hb
          | vec ty rs rows => cases hb
      | el id rs row o' =>
        simp only [AV.field, Option.some.injEq] at hav; subst hav
        simp only [ARel] at hrel ⊢
        obtain ⟨b', e1, e2⟩ := hrel
        rw [e2] at h1
        simp only [Value.pointer.injEq, Option.some.injEq, Addr.mk.injEq, and_true] at h1
        obtain ⟨rfl, rfl⟩ := h1
        exact ⟨b', e1, by rw [Nat.add_assoc]⟩
      | _ => cases hav

/-- Go's slices: how many elements; the address of one. -/
def St.rows (st : St) : AV → Option (Nat × Nat)
  | .p (.sl rs rows) => some (rs, rows.length)
  | .h id => match get st.hp id with
    | some (.vec _ rs rows) => some (rs, rows.length)
    | _ => none
  | _ => none

def St.at (st : St) (i : Nat) : AV → Option AV
  | .p (.sl _ rows) => match rows[i]? with
    | some r => some (.p (.ptr r))
    | none => none
  | .h id => match get st.hp id with
    | some (.vec _ rs _) => some (.el id rs i 0)
    | _ => none
  | _ => none

theorem rows_rel {av : AV} {rs n : Nat} (hb : st.rows av = some (rs, n)) {η : Nat → Value} {φ : Nat → List Nat} {a : Act} {w : World} (hr : RepE fr η φ st a w) {u : Value}
    (h : ARel η (SOf φ st.hp) w av u) : ∃ x cap, u = .slice x n cap := by
  cases av with
  | p x =>
    cases x with
    | sl rs' rows =>
      simp only [St.rows, Option.some.injEq, Prod.mk.injEq] at hb
      obtain ⟨rfl, rfl⟩ := hb
      simp only [ARel, Rel] at h
      obtain ⟨a, cap, h1, _⟩ := h
      exact ⟨a, cap, h1⟩
    | _ => cases hb
  | h id =>
    simp only [St.rows] at hb
    cases hg : get st.hp id with
    | none => rw [hg] at hb; cases hb
    | some r =>
      rw [hg] at hb
      cases r with
      | cust C => cases hb
      | box ty cs' => cases hb
      | vec ty rs' rows =>
        simp only [Option.some.injEq, Prod.mk.injEq] at hb
        obtain ⟨rfl, rfl⟩ := hb
        obtain ⟨xs, h1, h2, h3, h4⟩ := hr.res id _ hg
        simp only [ARel] at h
        rcases h3.2 with ⟨e, hn⟩ | ⟨g', cap, cur, e, _⟩
        · exact ⟨none, 0, by rw [h, e, hn]⟩
        · exact ⟨_, cap, by rw [h, e]⟩
  | _ => cases hb

theorem Yld.len {ty : TypeId} {x : Operand} {av : AV} {rs n : Nat} {e : TypeId} (hs : P.underlying ty = some (.slice e)) (hx : st.ev x = some av) (hb : st.rows av = some (rs, n)) :
    Yld P fr ⟨d, .call { callee := .builtin .len, args := #[x], argTypes := #[ty] }, t, pos, aft, g⟩ st (.p (.v (.int .i64 n))) :=
  Yld.of_run fun _ _ A w hr => by
    obtain ⟨y, cap, h1⟩ := rows_rel hb hr (hr.ev hx)
    exact ⟨.int .i64 n, fun w' hw' => by simp [execOp, resolve, invoke, builtin, h1, Builtin.len_, run_underlying hs, goInt], by simp [ARel, Rel]⟩

theorem Yld.lenStr {ty : TypeId} {x : Operand} {l : List UInt8} (hs : P.underlying ty = some .string) (hx : st.ev x = some (.p (.v (str l)))) :
    Yld P fr ⟨d, .call { callee := .builtin .len, args := #[x], argTypes := #[ty] }, t, pos, aft, g⟩ st (.p (.v (.int .i64 l.length))) :=
  Yld.of_run fun _ _ A w hr => by
    have h1 := hr.ev hx
    simp only [ARel, Rel, str] at h1
    exact ⟨.int .i64 l.length, fun w' hw' => by
      have := run_len_string (P := P) w' ty t ⟨l.toArray⟩ hs
      simp only [ByteArray.size, List.size_toArray] at this
      simp [execOp, resolve, invoke, builtin, h1, this, goInt], by simp [ARel, Rel]⟩

theorem Yld.indexStr {ty : TypeId} {x i : Operand} {l : List UInt8} {k : IntKind} {n : Int} {c : UInt8} (hs : P.underlying ty = some .string) (hx : st.ev x = some (.p (.v (str l)))) (hi : st.ev i = some (.p (.v (.int k n))))
    (h0 : 0 ≤ n) (hc : l[n.toNat]? = some c) :
    Yld P fr ⟨d, .index ty x i, t, pos, aft, g⟩ st (.p (.v (.int .u8 c.toNat))) :=
  Yld.of_run fun _ _ A w hr => by
    have h1 := hr.ev hx
    have h2 := hr.ev hi
    simp only [ARel, Rel, str] at h1 h2
    refine ⟨.int .u8 c.toNat, fun w' hw' => ?_, by simp [ARel, Rel]⟩
    obtain ⟨hlt, e⟩ := List.getElem?_eq_some_iff.1 hc
    have hr2 := run_index_string (P := P) w' ty ⟨l.toArray⟩ k n hs
    rw [dif_pos ⟨h0, by simp only [ByteArray.size, List.size_toArray]; omega⟩] at hr2
    simp only [execOp, h1, h2, Sem.run_bind, hr2]
    simp [ByteArray.getElem_eq_getElem_data, e]

theorem Yld.indexAddr {ty : TypeId} {x i : Operand} {av av' : AV} {rs n : Nat} {e : TypeId} {k : IntKind} {j : Int} (hs : P.underlying ty = some (.slice e)) (hsz : ∀ w, (sizeOf e).run P w = .ok rs w)
    (hx : st.ev x = some av) (hi : st.ev i = some (.p (.v (.int k j)))) (hb : st.rows av = some (rs, n)) (h0 : 0 ≤ j) (h1 : j < n) (hat : st.at j.toNat av = some av') :
    Yld P fr ⟨d, .indexAddr ty x i, t, pos, aft, g⟩ st av' :=
  Yld.of_run fun η φ A w hr => by
    have hrel := hr.ev hx
    have hj := hr.ev hi
    simp only [ARel, Rel] at hj
    have key : ∃ b o cap, A.eval x = .slice (some ⟨b, o, none⟩) n cap ∧ ARel η (SOf φ st.hp) w av' (.pointer (some ⟨b, o + j.toNat * rs, none⟩)) := by
      cases av with
      | p y =>
        cases y with
        | sl rs' rows =>
          simp only [St.rows, Option.some.injEq, Prod.mk.injEq] at hb
          obtain ⟨rfl, rfl⟩ := hb
          simp only [ARel, Rel] at hrel
          obtain ⟨a, cap, e1, e2, e3⟩ := hrel
          simp only [St.at] at hat
          cases hrow : rows[j.toNat]? with
          | none => rw [hrow] at hat; cases hat
          | some r =>
            rw [hrow] at hat
            simp only [Option.some.injEq] at hat; subst hat
            rcases e3 with e3 | ⟨b, o, rfl, e4, e5, e6⟩
            · subst e3; simp at hrow
            · exact ⟨b, o, cap, e1, by simp only [ARel, Rel]; exact ⟨b, o + j.toNat * rs', rfl, e4, e5, (relRows_getElem o rows _ r e6 hrow).2⟩⟩
        | _ => cases hb
      | h id =>
        simp only [St.rows] at hb
        simp only [St.at] at hat
        cases hg : get st.hp id with
        | none => rw [hg] at hb; cases hb
        | some r =>
          rw [hg] at hb hat
          cases r with
          | cust C => cases hb
          | box ty cs' => cases hb
          | vec ty rs' rows =>
            simp only [Option.some.injEq, Prod.mk.injEq] at hb
            obtain ⟨rfl, rfl⟩ := hb
            simp only [Option.some.injEq] at hat; subst hat
            obtain ⟨xs, e1, e2, e3, e4⟩ := hr.res id _ hg
            simp only [ARel] at hrel ⊢
            rcases e3.2 with ⟨ev, hn⟩ | ⟨g', cap, cur, ev, _⟩
            · omega
            · exact ⟨g', 0, cap, by rw [hrel, ev], g', by rw [ev]; rfl, by simp⟩
      | _ => cases hb
    obtain ⟨b, o, cap, e1, e2⟩ := key
    refine ⟨_, fun w' hw' => ?_, e2⟩
    simp [execOp, e1, hj, Instr.indexAt, asIntOf, run_underlying hs, h0, h1, hsz, add_plain]

end
end Go.V
