/- The calculus' rules for operations that make or change memory. -/
import Derived.Test.YtbbechcbdeknnaaV3
set_option linter.all false
namespace Go.V
open Go Go.RowKit

def freshT (id : Nat) : List (Nat × AV) → Bool
  | [] => true
  | (_, a) :: l => match a.names id with
    | true => false
    | false => freshT id l
def freshH (id : Nat) : List (Nat × Res) → Bool
  | [] => true
  | (j, r) :: l => match Nat.beq j id with
    | true => false
    | false => match r.names id with
      | true => false
      | false => freshH id l
def St.fresh (st : St) (id : Nat) : Bool := match freshT id st.tm with
  | true => freshH id st.hp
  | false => false

theorem freshT_spec {id : Nat} : ∀ {l : List (Nat × AV)}, freshT id l = true → ∀ i av, get l i = some av → av.names id = false
  | [], _, _, _, h => by cases h
  | (j, a) :: l, hf, i, av, h => by
    simp only [freshT] at hf
    cases hn : a.names id with
    | true => rw [hn] at hf; cases hf
    | false =>
      rw [hn] at hf
      rw [get_cons] at h
      split at h
      · obtain rfl := Option.some.inj h; exact hn
      · exact freshT_spec hf i av h
theorem freshH_spec {id : Nat} : ∀ {l : List (Nat × Res)}, freshH id l = true → get l id = none ∧ ∀ i r, get l i = some r → r.names id = false
  | [], _ => ⟨rfl, fun _ _ h => by cases h⟩
  | (j, a) :: l, hf => by
    simp only [freshH] at hf
    cases hj : Nat.beq j id with
    | true => rw [hj] at hf; cases hf
    | false =>
      rw [hj] at hf
      cases hn : a.names id with
      | true => rw [hn] at hf; cases hf
      | false =>
        rw [hn] at hf
        have ih := freshH_spec (l := l) hf
        refine ⟨by simp only [get, hj]; exact ih.1, fun i r h => ?_⟩
        rw [get_cons] at h
        split at h
        · obtain rfl := Option.some.inj h; exact hn
        · exact ih.2 i r h

def upd {α : Type} (f : Nat → α) (id : Nat) (x : α) (j : Nat) : α := if j = id then x else f j
theorem upd_self {α : Type} (f : Nat → α) (id : Nat) (x : α) : upd f id x id = x := by simp [upd]
theorem upd_ne {α : Type} (f : Nat → α) {id j : Nat} (x : α) (h : j ≠ id) : upd f id x j = f j := by simp [upd, h]

section
variable {P : Program} {fr : Fr} {st : St}

theorem ne_of_names {id i : Nat} {b : Bool} (h : b = false) (hi : b = true) : i ≠ id := by rw [h] at hi; cases hi

/-- Something new is owned, in blocks that were not there before. -/
theorem RepE.add {η : Nat → Value} {φ : Nat → List Nat} {a : Act} {w w' : World} (hr : RepE fr η φ st a w) (hb : Below w.heap.size w w') (id : Nat) (hf : st.fresh id = true) (r : Res) (hd : Value) (F : List Nat)
    (hF : ∀ k ∈ F, w.heap.size ≤ k ∧ k < w'.heap.size) (hres : RRes (upd η id hd) (SOf (upd φ id F) ((id, r) :: st.hp)) w' hd F r) (hpin : get fr.pin id = none := by rfl) :
    RepE fr (upd η id hd) (upd φ id F) ⟨st.tm, (id, r) :: st.hp⟩ a w' := by
  have hft : freshT id st.tm = true := by unfold St.fresh at hf; split at hf <;> simp_all
  have hfh : freshH id st.hp = true := by unfold St.fresh at hf; rw [hft] at hf; exact hf
  have hfT := freshT_spec hft
  obtain ⟨hno, hfH⟩ := freshH_spec hfh
  have hSame : Same (SOf φ st.hp) w w' := Same.of_below hb
  have hS : ∀ k, k < w.heap.size → SOf (upd φ id F) ((id, r) :: st.hp) k → SOf φ st.hp k := by
    rintro k hk ⟨i, r', hg, hm⟩
    rw [get_cons] at hg
    split at hg
    · next e => subst e; rw [upd_self] at hm; have := (hF k hm).1; omega
    · next e => rw [upd_ne _ _ (fun h => e h.symm)] at hm; exact ⟨i, r', hg, hm⟩
  have hne : ∀ i r', get st.hp i = some r' → i ≠ id := fun i r' h e => by subst e; rw [hno] at h; cases h
  refine ⟨hr.defers, hr.size, ?_, ?_, ?_, ?_, ?_, hr.keep.below hb, fun i v hi => by rw [upd_ne _ _ (fun e => by subst e; rw [hpin] at hi; cases hi)]; exact hr.pin i v hi⟩
  · intro i av hg
    obtain ⟨u, h1, h2⟩ := hr.slots i av hg
    exact ⟨u, h1, ARel.mono hSame hS av u (fun j hj => upd_ne _ _ (fun e => by subst e; rw [hfT i av hg] at hj; cases hj)) h2⟩
  · intro i r' hg
    simp only [get_cons] at hg
    split at hg
    · next e => subst e; obtain rfl := Option.some.inj hg; rw [upd_self, upd_self]; exact hres
    · next e =>
      rw [upd_ne _ _ (fun h => e h.symm), upd_ne _ _ (fun h => e h.symm)]
      exact RRes.mono hSame hS (fun k hk => hb.block k (hr.lt i r' k hg hk)) r' (fun j hj => upd_ne _ _ (fun e => by subst e; rw [hfH i r' hg] at hj; cases hj)) (hr.res i r' hg)
  · intro i j r1 r2 k h1 h2 h3 h4
    simp only [get_cons] at h1 h2
    split at h1
    · next e =>
      subst e
      rw [upd_self] at h3
      split at h2
      · next e2 => exact e2
      · next e2 =>
        rw [upd_ne _ _ (fun h => e2 h.symm)] at h4
        have := hr.lt j r2 k h2 h4
        have := (hF k h3).1
        omega
    · next e =>
      rw [upd_ne _ _ (fun h => e h.symm)] at h3
      split at h2
      · next e2 =>
        subst e2
        rw [upd_self] at h4
        have := hr.lt i r1 k h1 h3
        have := (hF k h4).1
        omega
      · next e2 =>
        rw [upd_ne _ _ (fun h => e2 h.symm)] at h4
        exact hr.disj i j r1 r2 k h1 h2 h3 h4
  · intro i r' k hg hk
    simp only [get_cons] at hg
    split at hg
    · next e => subst e; rw [upd_self] at hk; exact .inl (Nat.le_trans hr.keep.size (hF k hk).1)
    · next e => rw [upd_ne _ _ (fun h => e h.symm)] at hk; exact hr.low i r' k hg hk
  · intro i r' k hg hk
    simp only [get_cons] at hg
    split at hg
    · next e => subst e; rw [upd_self] at hk; exact (hF k hk).2
    · next e => rw [upd_ne _ _ (fun h => e h.symm)] at hk; exact Nat.lt_of_lt_of_le (hr.lt i r' k hg hk) hb.size

/-- In one operation: a value that is the handle of something new. -/
theorem RepE.addPut {η : Nat → Value} {φ : Nat → List Nat} {a : Act} {w w' : World} (hr : RepE fr η φ st a w) (hb : Below w.heap.size w w') (id : Nat) (hf : st.fresh id = true) (r : Res) (hd : Value) (F : List Nat)
    (hF : ∀ k ∈ F, w.heap.size ≤ k ∧ k < w'.heap.size) (hres : RRes (upd η id hd) (SOf (upd φ id F) ((id, r) :: st.hp)) w' hd F r) {d : Nat} (hlt : Nat.blt d fr.nt = true) (hpin : get fr.pin id = none := by rfl) :
    RepE fr (upd η id hd) (upd φ id F) ⟨(d, .h id) :: st.tm, (id, r) :: st.hp⟩ (a.put (some d) hd) w' :=
  (hr.add hb id hf r hd F hF hres hpin).put hlt (av := .h id) (by simp only [ARel]; rw [upd_self])

variable {ops : Array Oper} {rest : List Oper} {k : List It}

/-- A rule for an operation of a region without a draw. -/
theorem AO.of_run {o : Oper} {d : Nat} (hd : o.dst = some d) (hg : o.guard = none) {st' : St}
    (h : ∀ a w, Rep fr st a w → ∃ u w', (execOp a.eval o).run P w = .ok (.value u) w' ∧ Rep fr st' (a.put (some d) u) w')
    (hk : AO P fr ops rest k false st') : AO P fr ops (o :: rest) k false st := by
  intro a w hr
  obtain ⟨u, w', h1, h2⟩ := h a w hr
  simp only [wpList, wanted_none hg, if_true]
  refine .inl ?_
  unfold Oper.wp
  rw [h1]
  simp only [Oper.upon, hd]
  exact hk _ _ h2

theorem AO.of_runG {o : Oper} {d j dj : Nat} {c : Bool} (hd : o.dst = some d) (hg : o.guard = some (j, c)) (hj : (ops[j]?).bind (·.dst) = some dj)
    (hc : get st.tm dj = some (.p (.v (.bool c)))) {st' : St}
    (h : ∀ a w, Rep fr st a w → ∃ u w', (execOp a.eval o).run P w = .ok (.value u) w' ∧ Rep fr st' (a.put (some d) u) w')
    (hk : AO P fr ops rest k false st') : AO P fr ops (o :: rest) k false st := by
  intro a w hr
  obtain ⟨u, w', h1, h2⟩ := h a w hr
  obtain ⟨η, φ, hr'⟩ := hr
  have hw : Region.wanted o (yielded ops a.tmps) = true := by simp [Region.wanted, hg, yielded_of hr' hj hc]
  simp only [wpList, hw, if_true]
  refine .inl ?_
  unfold Oper.wp
  rw [h1]
  simp only [Oper.upon, hd]
  exact hk _ _ h2

/-- An operation without a result (a store). -/
theorem AO.of_run0 {o : Oper} (hd : o.dst = none) (hg : o.guard = none) {st' : St}
    (h : ∀ a w, Rep fr st a w → ∃ w', (execOp a.eval o).run P w = .ok .skip w' ∧ Rep fr st' a w')
    (hk : AO P fr ops rest k false st') : AO P fr ops (o :: rest) k false st := by
  intro a w hr
  obtain ⟨w', h1, h2⟩ := h a w hr
  simp only [wpList, wanted_none hg, if_true]
  refine .inl ?_
  unfold Oper.wp
  rw [h1]
  simp only [Oper.upon, hd, Act.put]
  exact hk _ _ h2

theorem relL_map {η : Nat → Value} {S : Nat → Prop} {w : World} : ∀ (l : List PV) (us : List Value), RelL S w l us → ARelL η S w (l.map .p) us
  | [], us, h => by simpa [RelL, ARelL] using h
  | c :: l, us, h => by
    simp only [RelL] at h
    obtain ⟨u, us', rfl, h2, h3⟩ := h
    simp only [List.map_cons, ARelL]
    exact ⟨u, us', rfl, by simpa [ARel] using h2, relL_map l us' h3⟩

theorem hd_shape {hd : Value} {F : List Nat} {η : Nat → Value} {S : Nat → Prop} {w : World} {r : Res} (h : RRes η S w hd F r) : (∃ a, hd = .pointer a) ∨ (∃ a n c, hd = .slice a n c) := by
  cases r with
  | cust C => exact C.shape h
  | box ty cs => obtain ⟨b, arr, rfl, _⟩ := h; exact .inl ⟨_, rfl⟩
  | vec ty rs rows =>
    obtain ⟨xs, _, _, h3, _⟩ := h
    rcases h3.2 with ⟨rfl, _⟩ | ⟨g, cap, cur, rfl, _⟩
    · exact .inr ⟨_, _, _, rfl⟩
    · exact .inr ⟨_, _, _, rfl⟩

/-- Values that are laid in one cell. -/
def AV.one : AV → Bool
  | .p (.v (.agg _)) => false
  | .p (.v (.tuple _)) => false
  | .p (.tup _) => false
  | .p (.agg _) => false
  | .agg _ => false
  | .tup _ => false
  | .junk => false
  | .h _ => false
  | _ => true

theorem one_spec {η : Nat → Value} {S : Nat → Prop} {w : World} {av : AV} {u : Value} (h : ARel η S w av u) (ho : av.one = true) : u.cells = #[u] ∧ u.oneCell' = true := by
  cases av with
  | p x =>
    cases x with
    | v y => simp only [ARel, Rel] at h; subst h; cases u <;> first | exact ⟨rfl, rfl⟩ | (simp [AV.one] at ho)
    | ptr cs => simp only [ARel, Rel] at h; obtain ⟨b, o, rfl, _⟩ := h; exact ⟨rfl, rfl⟩
    | sl rs rows => simp only [ARel, Rel] at h; obtain ⟨a, cap, rfl, _⟩ := h; exact ⟨rfl, rfl⟩
    | agg cs => simp [AV.one] at ho
    | tup cs => simp [AV.one] at ho
    | clo f cs => simp only [ARel, Rel] at h; obtain ⟨us, rfl, _⟩ := h; exact ⟨rfl, rfl⟩
  | h id => simp [AV.one] at ho
  | el id rs row off => simp only [ARel] at h; obtain ⟨b, _, rfl⟩ := h; exact ⟨rfl, rfl⟩
  | agg cs => simp [AV.one] at ho
  | tup cs => simp [AV.one] at ho
  | clo f cs => simp only [ARel] at h; obtain ⟨us, rfl, _⟩ := h; exact ⟨rfl, rfl⟩
  | junk => simp [AV.one] at ho

/-- The cells that a state's slot content takes. -/
def St.cellsOf (st : St) : AV → Option (List AV)
  | .agg cs => some cs
  | .p (.agg cs) => some (cs.map .p)
  | .h id => match get st.hp id with
    | some _ => some [.h id]
    | none => none
  | av => match av.one with
    | true => some [av]
    | false => none

theorem cellsOf_rel {av : AV} {cs : List AV} (hc : st.cellsOf av = some cs) {η : Nat → Value} {φ : Nat → List Nat} {a : Act} {w : World} (hr : RepE fr η φ st a w) {u : Value}
    (h : ARel η (SOf φ st.hp) w av u) : ARelL η (SOf φ st.hp) w cs u.cells.toList := by
  have one : ∀ av : AV, ARel η (SOf φ st.hp) w av u → u.cells = #[u] → ARelL η (SOf φ st.hp) w [av] u.cells.toList := fun av h e => by
    rw [e]; simp only [ARelL]; exact ⟨u, [], rfl, h, rfl⟩
  cases av with
  | p x =>
    cases x with
    | agg l =>
      simp only [St.cellsOf, Option.some.injEq] at hc; subst hc
      simp only [ARel, Rel] at h
      obtain ⟨us, rfl, h2⟩ := h
      exact relL_map l us.toList h2
    | v y =>
      simp only [St.cellsOf] at hc
      cases ho : (AV.p (.v y)).one with
      | false => rw [ho] at hc; cases hc
      | true => rw [ho] at hc; obtain rfl := Option.some.inj hc; exact one _ h (one_spec h ho).1
    | ptr l => simp only [St.cellsOf, AV.one, Option.some.injEq] at hc; subst hc; exact one _ h (one_spec h rfl).1
    | sl rs l => simp only [St.cellsOf, AV.one, Option.some.injEq] at hc; subst hc; exact one _ h (one_spec h rfl).1
    | tup l => simp [St.cellsOf, AV.one] at hc
    | clo f l => simp only [St.cellsOf, AV.one, Option.some.injEq] at hc; subst hc; exact one _ h (one_spec h rfl).1
  | h id =>
    simp only [St.cellsOf] at hc
    cases hg : get st.hp id with
    | none => rw [hg] at hc; cases hc
    | some r =>
      rw [hg] at hc
      obtain rfl := Option.some.inj hc
      refine one _ h ?_
      simp only [ARel] at h
      rcases hd_shape (hr.res id r hg) with ⟨a, e⟩ | ⟨a, n, c, e⟩ <;> rw [h, e] <;> rfl
  | el id rs row off => simp only [St.cellsOf, AV.one, Option.some.injEq] at hc; subst hc; exact one _ h (one_spec h rfl).1
  | agg l =>
    simp only [St.cellsOf, Option.some.injEq] at hc; subst hc
    simp only [ARel] at h
    obtain ⟨us, rfl, h2⟩ := h
    exact h2
  | tup l => simp [St.cellsOf, AV.one] at hc
  | clo f l => simp only [St.cellsOf, AV.one, Option.some.injEq] at hc; subst hc; exact one _ h (one_spec h rfl).1
  | junk => simp [St.cellsOf, AV.one] at hc

theorem cellsOf_names {av : AV} {cs : List AV} (hc : st.cellsOf av = some cs) (id : Nat) (hn : av.names id = false) : AV.namesL id cs = false := by
  have mp : ∀ l : List PV, AV.namesL id (l.map .p) = false := by
    intro l; induction l with
    | nil => rfl
    | cons c l ih => simp [AV.namesL, AV.names, ih]
  have one : ∀ av : AV, av.names id = false → AV.namesL id [av] = false := fun av h => by simp [AV.namesL, h]
  cases av with
  | p x =>
    cases x with
    | agg l => simp only [St.cellsOf, Option.some.injEq] at hc; subst hc; exact mp l
    | v y =>
      simp only [St.cellsOf] at hc
      cases ho : (AV.p (.v y)).one with
      | false => rw [ho] at hc; cases hc
      | true => rw [ho] at hc; obtain rfl := Option.some.inj hc; exact one _ hn
    | ptr l => simp only [St.cellsOf, AV.one, Option.some.injEq] at hc; subst hc; exact one _ hn
    | sl rs l => simp only [St.cellsOf, AV.one, Option.some.injEq] at hc; subst hc; exact one _ hn
    | tup l => simp [St.cellsOf, AV.one] at hc
    | clo f l => simp only [St.cellsOf, AV.one, Option.some.injEq] at hc; subst hc; exact one _ hn
  | h i =>
    simp only [St.cellsOf] at hc
    cases hg : get st.hp i with
    | none => rw [hg] at hc; cases hc
    | some r => rw [hg] at hc; obtain rfl := Option.some.inj hc; exact one _ hn
  | el i rs row off => simp only [St.cellsOf, AV.one, Option.some.injEq] at hc; subst hc; exact one _ hn
  | agg l => simp only [St.cellsOf, Option.some.injEq] at hc; subst hc; simpa only [AV.names] using hn
  | tup l => simp [St.cellsOf, AV.one] at hc
  | clo f l => simp only [St.cellsOf, AV.one, Option.some.injEq] at hc; subst hc; exact one _ hn
  | junk => simp [St.cellsOf, AV.one] at hc

variable {d : Nat} {t : TypeId} {pos : String} {aft : Array Edge}

/-- A new block of one's own, made by laying values. -/
theorem RepE.box {η : Nat → Value} {φ : Nat → List Nat} {a : Act} {w : World} (hr : RepE fr η φ st a w) (id : Nat) (hf : st.fresh id = true) (ty : TypeId) (cs : List AV) (arr : Array Value)
    (hcs : AV.namesL id cs = false) (hrel : ARelL η (SOf φ st.hp) w cs arr.toList) {d : Nat} (hlt : Nat.blt d fr.nt = true) (hpin : get fr.pin id = none := by rfl) :
    Rep fr ⟨(d, .h id) :: st.tm, (id, .box ty cs) :: st.hp⟩ (a.put (some d) (.pointer (some ⟨w.heap.size, 0, none⟩))) (w.alloc (.cells arr ty)) := by
  have hb : Below w.heap.size w (w.alloc (.cells arr ty)) := (Below.refl _ _).alloc (Nat.le_refl _) _
  have hft : freshT id st.tm = true := by unfold St.fresh at hf; split at hf <;> simp_all
  have hfh : freshH id st.hp = true := by unfold St.fresh at hf; rw [hft] at hf; exact hf
  refine ⟨_, _, hr.addPut hb id hf (.box ty cs) (.pointer (some ⟨w.heap.size, 0, none⟩)) [w.heap.size] (by simp) ⟨w.heap.size, arr, rfl, rfl, heap_alloc_new w _, ?_⟩ hlt hpin⟩
  refine ARelL.mono (Same.of_below hb) ?_ cs arr.toList (fun i hi => upd_ne _ _ (fun e => by subst e; rw [hcs] at hi; cases hi)) hrel
  rintro k hk ⟨i, r', hg, hm⟩
  rw [get_cons] at hg
  split at hg
  · next e => subst e; rw [upd_self] at hm; simp at hm; omega
  · next e => rw [upd_ne _ _ (fun h => e h.symm)] at hm; exact ⟨i, r', hg, hm⟩

theorem AO.box {ty : TypeId} {x : Operand} (id : Nat) {av : AV} {cs : List AV} (hx : st.ev x = some av) (hc : st.cellsOf av = some cs) (hf : st.fresh id = true) (hcs : AV.namesL id cs = false) (hlt : Nat.blt d fr.nt = true)
    (hk : AO P fr ops rest k false ⟨(d, .h id) :: st.tm, (id, .box ty cs) :: st.hp⟩) (hpin : get fr.pin id = none := by rfl) : AO P fr ops (⟨some d, .box ty x, t, pos, aft, none⟩ :: rest) k false st :=
  AO.of_run rfl rfl (fun a w ⟨η, φ, hr⟩ => ⟨_, _, by simp [execOp, Instr.box, newVar, newRow], hr.box id hf ty cs (a.eval x).cells hcs (cellsOf_rel hc hr (hr.ev hx)) hlt hpin⟩) hk

/-- The plain data of a cell of a zero value. -/
def zpv : Value → PV
  | .slice none 0 0 => .sl 0 []
  | x => .v x
theorem zpv_rel (S : Nat → Prop) (w : World) (x : Value) : Rel S w (zpv x) x := by
  unfold zpv; split
  · simp only [Rel]; exact ⟨none, 0, rfl, Nat.le_refl _, .inl trivial⟩
  · simp only [Rel]
theorem zpvs_rel (S : Nat → Prop) (w : World) : ∀ l : List Value, RelL S w (l.map zpv) l
  | [] => rfl
  | x :: l => by simp only [List.map_cons, RelL]; exact ⟨x, l, rfl, zpv_rel S w x, zpvs_rel S w l⟩

theorem namesL_map (id : Nat) : ∀ l : List PV, AV.namesL id (l.map .p) = false
  | [] => rfl
  | c :: l => by simp [AV.namesL, AV.names, namesL_map id l]

theorem AO.alloc {ty : TypeId} (id : Nat) {z : Value} {cs : List PV} (hz : ∀ w, (zeroValue ty).run P w = .ok z w) (hc : z.cells.toList.map zpv = cs) (hf : st.fresh id = true) (hlt : Nat.blt d fr.nt = true)
    (hk : AO P fr ops rest k false ⟨(d, .h id) :: st.tm, (id, .box ty (cs.map .p)) :: st.hp⟩) (hpin : get fr.pin id = none := by rfl) : AO P fr ops (⟨some d, .alloc ty, t, pos, aft, none⟩ :: rest) k false st :=
  AO.of_run rfl rfl (fun a w ⟨η, φ, hr⟩ => ⟨_, _, by simp [execOp, Instr.alloc, hz, newVar, newRow], hr.box id hf ty (cs.map .p) z.cells
    (namesL_map id cs) (relL_map cs _ (hc ▸ zpvs_rel _ _ _)) hlt hpin⟩) hk

end
end Go.V
