/- From a contract in the calculus to a statement of the given form: what is handed in reads as plain data. -/
import Derived.Test.YtbbechcbdeknnaaV8
import Derived.ProofKit
set_option linter.all false
namespace Go.V
open Go Go.RowKit Go.ChangeShapes Go.WideShapes Go.ChangeAt

inductive Ty where
  | int (k : IntKind)
  | str
  | bool
  | slice (e : Ty)
  | struct (l : List Ty)

mutual
def Ty.cells : Ty → Nat
  | .struct l => Ty.cellsL l
  | _ => 1
def Ty.cellsL : List Ty → Nat
  | [] => 0
  | t :: l => t.cells + Ty.cellsL l
end

mutual
/-- The plain data of a type. -/
def Ty.Has : Ty → List PV → Prop
  | .int k, l => ∃ n, l = [.v (.int k n)] ∧ (Lit.int k n).wf = true
  | .str, l => ∃ s : List UInt8, l = [.v (V.str s)] ∧ s.length ≤ maxLen
  | .bool, l => ∃ b, l = [.v (.bool b)]
  | .slice e, l => ∃ rows, l = [.sl e.cells rows] ∧ (∀ r ∈ rows, e.Has r) ∧ rows.length ≤ maxLen
  | .struct ts, l => Ty.HasL ts l
def Ty.HasL : List Ty → List PV → Prop
  | [], l => l = []
  | t :: ts, l => ∃ a b, l = a ++ b ∧ t.Has a ∧ Ty.HasL ts b
end

def tysOf (P : Program) (rec : TypeId → Option Ty) : List Field → Nat → Option (List Ty)
  | [], _ => some []
  | f :: fs, off => match rec f.type with
    | some t => if f.offset = off ∧ P.cellsOf f.type = t.cells then (match tysOf P rec fs (off + t.cells) with
      | some l => some (t :: l)
      | none => none) else none
    | none => none

def tyOf (P : Program) : Nat → TypeId → Option Ty
  | 0, _ => none
  | n + 1, T => match P.underlying T with
    | some (.int k) => some (.int k)
    | some .string => some .str
    | some .bool => some .bool
    | some (.slice e) => match tyOf P n e with
      | some t => if P.cellsOf e = t.cells ∧ 0 < t.cells then some (.slice t) else none
      | none => none
    | some (.struct fs) => match tysOf P (tyOf P n) fs.toList 0 with
      | some l => if P.cellsOf T = Ty.cellsL l then some (.struct l) else none
      | none => none
    | _ => none

mutual
theorem Ty.Has.length : ∀ (t : Ty) (l : List PV), t.Has l → l.length = t.cells
  | .int _, l, h => by simp only [Ty.Has] at h; obtain ⟨n, rfl, _⟩ := h; rfl
  | .str, l, h => by simp only [Ty.Has] at h; obtain ⟨n, rfl, _⟩ := h; rfl
  | .bool, l, h => by simp only [Ty.Has] at h; obtain ⟨n, rfl⟩ := h; rfl
  | .slice _, l, h => by simp only [Ty.Has] at h; obtain ⟨n, rfl, _⟩ := h; rfl
  | .struct ts, l, h => by simp only [Ty.Has] at h; exact Ty.HasL.length ts l h
theorem Ty.HasL.length : ∀ (ts : List Ty) (l : List PV), Ty.HasL ts l → l.length = Ty.cellsL ts
  | [], l, h => by simp only [Ty.HasL] at h; subst h; rfl
  | t :: ts, l, h => by
    simp only [Ty.HasL] at h
    obtain ⟨a, b, rfl, h1, h2⟩ := h
    simp only [List.length_append, Ty.cellsL, Ty.Has.length t a h1, Ty.HasL.length ts b h2]
end

section
variable {H : Type} {enc : TypeId × Value → H} {P : Program} {w : World}

theorem fields_rel {base : Nat} {spare : Nat → Bool} {held : Bool} {n : Nat} {rec : TypeId → Option Ty}
    (ih : ∀ T ty cs x, rec T = some ty → DataW.trod enc P w base spare held n T cs = some x → ∃ l, RelL (fun _ => False) w l cs ∧ ty.Has l) :
    ∀ (fs : List Field) (off : Nat) (tys : List Ty) (cs : List Value) (xs : List (DataW H × List MemPlace)), tysOf P rec fs off = some tys → cs.length = off + Ty.cellsL tys →
      (∀ (i : Nat) (f : Field), fs[i]? = some f → DataW.trod enc P w base spare held n f.type ((cs.drop f.offset).take (P.cellsOf f.type)) = xs[i]?) → fs.length ≤ xs.length →
      ∃ l, RelL (fun _ => False) w l (cs.drop off) ∧ Ty.HasL tys l
  | [], off, tys, cs, xs, ht, hl, _, _ => by
    simp only [tysOf, Option.some.injEq] at ht; subst ht
    simp only [Ty.cellsL, Nat.add_zero] at hl
    exact ⟨[], by simp [RelL, ← hl], by simp [Ty.HasL]⟩
  | f :: fs, off, tys, cs, xs, ht, hl, hx, hlen => by
    simp only [tysOf] at ht
    cases hf : rec f.type with
    | none => rw [hf] at ht; cases ht
    | some t =>
      rw [hf] at ht
      simp only at ht
      split at ht
      · next hoff =>
        cases hr : tysOf P rec fs (off + t.cells) with
        | none => rw [hr] at ht; cases ht
        | some l' =>
          rw [hr] at ht
          simp only [Option.some.injEq] at ht; subst ht
          simp only [Ty.cellsL] at hl
          cases xs with
          | nil => simp at hlen
          | cons x xs =>
            have h0 := hx 0 f (by simp)
            simp only [List.getElem?_cons_zero] at h0
            obtain ⟨a, ha1, ha2⟩ := ih _ _ _ _ hf h0
            rw [hoff.1, hoff.2] at ha1
            obtain ⟨b, hb1, hb2⟩ := fields_rel ih fs (off + t.cells) l' cs xs hr (by omega) (fun i g hg => by have := hx (i + 1) g (by simpa using hg); simpa using this) (by simpa using hlen)
            refine ⟨a ++ b, ?_, by simp only [Ty.HasL]; exact ⟨a, b, rfl, ha2, hb2⟩⟩
            have : cs.drop off = (cs.drop off).take t.cells ++ cs.drop (off + t.cells) := by rw [← List.drop_drop, List.take_append_drop]
            rw [this]
            exact relL_append _ _ _ _ ha1 hb1
      · cases ht

theorem mapM_some {α β : Type} (f : α → Option β) : ∀ (l : List α) (r : List β), l.mapM f = some r → r.length = l.length ∧ ∀ (i : Nat) (a : α), l[i]? = some a → f a = r[i]? := by
  intro l
  induction l with
  | nil => intro r h; simp at h; subst h; simp
  | cons a l ih =>
    intro r h
    simp only [List.mapM_cons, Option.bind_eq_bind, Option.bind_eq_some_iff, Option.pure_def, Option.some.injEq] at h
    obtain ⟨b, h1, bs, h2, rfl⟩ := h
    obtain ⟨h3, h4⟩ := ih bs h2
    refine ⟨by simp [h3], fun i x hx => ?_⟩
    cases i with
    | zero => simp at hx; subst hx; simpa using h1
    | succ i => simp at hx; simpa using h4 i x hx

theorem rows_exist {R : Nat → List PV → Prop} : ∀ (len : Nat), (∀ i, i < len → ∃ r, R i r) → ∃ rows : List (List PV), rows.length = len ∧ ∀ i r, rows[i]? = some r → R i r
  | 0, _ => ⟨[], rfl, by simp⟩
  | len + 1, h => by
    obtain ⟨rows, h1, h2⟩ := rows_exist len (fun i hi => h i (by omega))
    obtain ⟨r, h3⟩ := h len (by omega)
    refine ⟨rows ++ [r], by simp [h1], fun i q hq => ?_⟩
    by_cases hi : i < rows.length
    · rw [List.getElem?_append_left hi] at hq; exact h2 i q hq
    · rw [List.getElem?_append_right (by omega)] at hq
      have hi0 : i = len := by
        have := (List.getElem?_eq_some_iff.1 hq).1
        simp at this; omega
      subst hi0
      simp [h1] at hq; subst hq; exact h3

theorem trod_rel {base : Nat} {spare : Nat → Bool} {held : Bool} : ∀ (n m : Nat) (T : TypeId) (ty : Ty) (cs : List Value) (x : DataW H × List MemPlace), tyOf P n T = some ty → DataW.trod enc P w base spare held m T cs = some x →
    ∃ l, RelL (fun _ => False) w l cs ∧ ty.Has l
  | 0, _, _, _, _, _, h, _ => by cases h
  | n + 1, m, T, ty, cs, x, h, hx => by
    simp only [tyOf] at h
    cases hu : P.underlying T with
    | none => rw [hu] at h; cases h
    | some D =>
      rw [hu] at h
      cases D with
      | int k =>
        simp only [Option.some.injEq] at h; subst h
        obtain ⟨i, rfl, _, hw⟩ := DataW.trod_int hu hx
        exact ⟨[.v (.int k i)], by simp [RelL, Rel], by simp only [Ty.Has]; exact ⟨i, rfl, hw⟩⟩
      | bool =>
        simp only [Option.some.injEq] at h; subst h
        obtain ⟨b, rfl, _⟩ := DataW.trod_bool hu hx
        exact ⟨[.v (.bool b)], by simp [RelL, Rel], by simp only [Ty.Has]; exact ⟨b, rfl⟩⟩
      | string =>
        simp only [Option.some.injEq] at h; subst h
        obtain ⟨s, rfl, _, hs⟩ := DataW.trod_string hu hx
        refine ⟨[.v (V.str s.data.toList)], ?_, by simp only [Ty.Has]; exact ⟨_, rfl, by rw [Array.length_toList]; exact hs⟩⟩
        simp [RelL, Rel, V.str]
      | slice e =>
        simp only at h
        cases he : tyOf P n e with
        | none => rw [he] at h; cases h
        | some te =>
          rw [he] at h
          simp only at h
          split at h
          · next hc =>
            simp only [Option.some.injEq] at h; subst h
            cases m with
            | zero => simp [DataW.trod] at hx
            | succ m =>
              unfold DataW.trod at hx
              rw [hu] at hx
              split at hx <;> simp only [Option.some.injEq, reduceCtorEq, TypeDesc.slice.injEq] at * <;> try (simp at hx; done)
              · refine ⟨[.sl te.cells []], ?_, by simp only [Ty.Has]; exact ⟨[], rfl, by simp, by simp⟩⟩
                simp only [RelL, Rel]
                exact ⟨_, _, rfl, ⟨none, 0, rfl, Nat.le_refl _, .inl trivial⟩, rfl⟩
              · next E a len cap hE =>
                subst hE
                split at hx
                · next hcond =>
                  obtain ⟨hbase, hlc, hcm⟩ := hcond
                  simp only [Option.bind_eq_some_iff] at hx
                  obtain ⟨elems, hel, _⟩ := hx
                  obtain ⟨hl1, hl2⟩ := mapM_some _ _ _ hel
                  simp only [List.length_range] at hl1
                  have hrow : ∀ i, i < len → ∃ r : List PV, te.Has r ∧ ∃ us, w.cells? base (a.add (i * P.cellsOf e)) (P.cellsOf e) = some us ∧ RelL (fun _ => False) w r us := by
                    intro i hi
                    have := hl2 i i (by simp [hi])
                    rw [List.getElem?_eq_getElem (by omega)] at this
                    obtain ⟨us, h1, h2⟩ := Option.bind_eq_some_iff.1 this
                    obtain ⟨r, h3, h4⟩ := trod_rel n m e te us _ he h2
                    exact ⟨r, h4, us, h1, h3⟩
                  by_cases hlen0 : len = 0
                  · subst hlen0
                    refine ⟨[.sl te.cells []], ?_, by simp only [Ty.Has]; exact ⟨[], rfl, by simp, by simp⟩⟩
                    simp only [RelL, Rel]
                    exact ⟨_, _, rfl, ⟨some a, cap, rfl, by simp, .inl trivial⟩, rfl⟩
                  · have hall := rows_exist (R := fun i r => te.Has r ∧ ∃ us, w.cells? base (a.add (i * P.cellsOf e)) (P.cellsOf e) = some us ∧ RelL (fun _ => False) w r us) len hrow
                    obtain ⟨rows, hr1, hr2⟩ := hall
                    have haddr : ∃ b o, a = ⟨b, o, none⟩ ∧ b < w.heap.size := by
                      obtain ⟨r, h1⟩ : ∃ r, rows[0]? = some r := ⟨_, List.getElem?_eq_getElem (by omega)⟩
                      obtain ⟨h2, us, h3, h4⟩ := hr2 0 r h1
                      obtain ⟨_, h5, h6⟩ := World.cells?_some h3
                      have h7 := h6 0 (by omega)
                      simp only [Nat.zero_mul, Addr.add, if_true] at h7
                      rw [List.getElem?_eq_getElem (by omega)] at h7
                      obtain ⟨b, o, sp⟩ := a
                      refine ⟨b, o, ?_, block_lt_of_cell h7⟩
                      cases sp with
                      | none => rfl
                      | some s =>
                        simp only [World.cell?] at h7
                        split at h7 <;> simp at h7
                    refine ⟨[.sl te.cells rows], ?_, by simp only [Ty.Has]; exact ⟨rows, rfl, fun r hr => by obtain ⟨i, hi⟩ := List.getElem?_of_mem hr; exact (hr2 i r hi).1, by omega⟩⟩
                    simp only [RelL, Rel]
                    obtain ⟨b, o, ha, hb⟩ := haddr
                    · subst ha
                      refine ⟨_, _, rfl, ⟨some ⟨b, o, none⟩, cap, by rw [hr1], by omega, .inr ⟨b, o, rfl, fun h => h, hb, ?_⟩⟩, rfl⟩
                      refine relRows_of_at rows o (fun r hr => by obtain ⟨i, hi⟩ := List.getElem?_of_mem hr; exact Ty.Has.length te r (hr2 i r hi).1) (fun i r hi => ?_)
                      obtain ⟨h2, us, h3, h4⟩ := hr2 i r hi
                      obtain ⟨_, h5, h6⟩ := World.cells?_some h3
                      refine relAt_of_relL r _ us (fun j u hj => ?_) h4
                      have hjl : j < us.length := (List.getElem?_eq_some_iff.1 hj).1
                      have := h6 j (by omega)
                      rw [add_plain, add_plain, hc.1] at this
                      rw [this]; exact hj
                · simp at hx
          · cases h
      | struct fs =>
        simp only at h
        cases hf : tysOf P (tyOf P n) fs.toList 0 with
        | none => rw [hf] at h; cases h
        | some l =>
          rw [hf] at h
          simp only at h
          split at h
          · next hc =>
            simp only [Option.some.injEq] at h; subst h
            obtain ⟨xs, m', rfl, _, hcl, hxl, hfs⟩ := DataW.trod_struct hu hx
            obtain ⟨r, h1, h2⟩ := fields_rel (fun T ty cs x h hx => trod_rel n m' T ty cs x h hx) fs.toList 0 l cs xs hf (by omega) (fun i f hi => hfs i f (by simpa using hi)) (by simp [hxl])
            exact ⟨r, by simpa using h1, by simp only [Ty.Has]; exact h2⟩
          · cases h
      | _ => cases h

/-- The plain data of an argument. -/
def Ty.HasA : Ty → PV → Prop
  | .struct ts, x => ∃ l, x = .agg l ∧ Ty.HasL ts l
  | t, x => t.Has [x]
def HasAll : List Ty → List PV → Prop
  | [], l => l = []
  | t :: ts, l => ∃ x l', l = x :: l' ∧ t.HasA x ∧ HasAll ts l'
def tysAll (P : Program) (n : Nat) : List TypeId → Option (List Ty)
  | [] => some []
  | T :: l => match tyOf P n T with
    | some t => match tysAll P n l with
      | some r => some (t :: r)
      | none => none
    | none => none

theorem noAgg {r : Reach} {base : Nat} {T : TypeId} {v : Value} (hok : Value.okWide P w r base T v) (h : ∀ fs, P.underlying T ≠ some (.struct fs)) (h2 : ∀ n e, P.underlying T ≠ some (.array n e)) : v.cells = #[v] := by
  cases v with
  | agg cs =>
    exfalso
    unfold Value.okWide at hok
    split at hok
    · next e => exact h _ e
    · next e => exact h2 _ _ e
    · unfold Cell.okWide at hok
      split at hok
      all_goals try (simp_all; done)
      unfold Cell.ok at hok
      split at hok <;> simp_all
  | _ => rfl

theorem arg_rel {r : Reach} {base base' n : Nat} {spare : Nat → Bool} {held : Bool} {T : TypeId} {ty : Ty} {v : Value} {d : DataW H} {ps : List MemPlace} (hty : tyOf P n T = some ty) (hok : Value.okWide P w r base T v)
    (h : DataW.Trod enc P w base' spare held T v d ps) : ∃ x, Rel (fun _ => False) w x v ∧ ty.HasA x := by
  obtain ⟨m, hm⟩ := h
  obtain ⟨l, h1, h2⟩ := trod_rel n m T ty _ _ hty hm
  have scalar : (∀ ts, ty ≠ .struct ts) → ∃ x, Rel (fun _ => False) w x v ∧ ty.HasA x := by
    intro hns
    have hu : (∀ fs, P.underlying T ≠ some (.struct fs)) ∧ (∀ n e, P.underlying T ≠ some (.array n e)) := by
      cases n with
      | zero => cases hty
      | succ n =>
        simp only [tyOf] at hty
        constructor
        · intro fs hfs
          rw [hfs] at hty
          simp only at hty
          split at hty
          · split at hty
            · simp only [Option.some.injEq] at hty; exact hns _ hty.symm
            · cases hty
          · cases hty
        · intro n e he; rw [he] at hty; cases hty
    have hv := noAgg hok hu.1 hu.2
    have hl := Ty.Has.length ty l h2
    have hc1 : ty.cells = 1 := by cases ty <;> first | rfl | exact absurd rfl (hns _)
    rw [hc1] at hl
    match l, hl with
    | [x], _ =>
      rw [hv] at h1
      simp only [RelL] at h1
      obtain ⟨u, us', e, h3, h4⟩ := h1
      simp only [List.cons.injEq] at e
      obtain ⟨rfl, rfl⟩ := e
      refine ⟨x, h3, ?_⟩
      cases ty <;> first | exact h2 | exact absurd rfl (hns _)
  cases ty with
  | struct ts =>
    have hu : ∃ fs, P.underlying T = some (.struct fs) := by
      cases n with
      | zero => cases hty
      | succ n =>
        simp only [tyOf] at hty
        cases hu : P.underlying T with
        | none => rw [hu] at hty; cases hty
        | some D =>
          rw [hu] at hty
          cases D with
          | struct fs => exact ⟨fs, rfl⟩
          | slice e => simp only at hty; (repeat' split at hty) <;> cases hty
          | _ => cases hty
    obtain ⟨fs, hu⟩ := hu
    unfold Value.okWide at hok
    rw [hu] at hok
    obtain ⟨cs, rfl, _⟩ := hok
    simp only [Ty.Has] at h2
    exact ⟨.agg l, by simp only [Rel]; exact ⟨cs, rfl, h1⟩, l, rfl, h2⟩
  | _ => exact scalar (fun ts h => by cases h)

theorem args_rel {r : Reach} {base n : Nat} {spare : Nat → Bool} {held : Bool} : ∀ (ts : List TypeId) (tys : List Ty) (vs : List Value) (ds : List (DataW H)) (ps : List MemPlace), tysAll P n ts = some tys →
    DataW.TrodAll enc P w 0 spare held ts vs ds ps → (∀ (j : Nat) t v, ts[j]? = some t → vs[j]? = some v → Value.okWide P w r base t v) → ∃ xs, RelL (fun _ => False) w xs vs ∧ HasAll tys xs
  | [], tys, vs, ds, ps, ht, h, _ => by
    simp only [tysAll, Option.some.injEq] at ht; subst ht
    cases vs with
    | nil => exact ⟨[], by simp [RelL], by simp [HasAll]⟩
    | cons => cases ds <;> exact h.elim
  | T :: ts, tys, vs, ds, ps, ht, h, hok => by
    simp only [tysAll] at ht
    cases hT : tyOf P n T with
    | none => rw [hT] at ht; cases ht
    | some t =>
      rw [hT] at ht
      simp only at ht
      cases hl : tysAll P n ts with
      | none => rw [hl] at ht; cases ht
      | some l =>
        rw [hl] at ht
        simp only [Option.some.injEq] at ht; subst ht
        match vs, ds, h with
        | v :: vs, d :: ds, h =>
          obtain ⟨p, q, h1, h2, rfl⟩ := h
          obtain ⟨x, e1, e2⟩ := arg_rel hT (hok 0 T v rfl rfl) h1
          obtain ⟨xs, e3, e4⟩ := args_rel ts l vs ds q hl h2 (fun j t v h1 h2 => hok (j + 1) t v (by simpa using h1) (by simpa using h2))
          exact ⟨x :: xs, by simp only [RelL]; exact ⟨v, vs, rfl, e1, e3⟩, by simp only [HasAll]; exact ⟨x, xs, rfl, e2, e4⟩⟩

theorem trodAll_below (hl : laidOutB P = true) {w' : World} (hb : Below w.heap.size w w') : ∀ (ts : List TypeId) (vs : List Value) (ds : List (DataW H)) (ps : List MemPlace), (∀ t ∈ ts, P.readableRec t = true ∧ t < P.types.size) →
    DataW.TrodAll enc P w 0 (fun _ => true) true ts vs ds ps → (∀ x ∈ ps, x.block < w.heap.size) → DataW.TrodAll enc P w' 0 (fun b => decide (b < w.heap.size)) true ts vs ds ps
  | [], [], [], _, _, h, _ => h
  | [], _ :: _, _, _, _, h, _ => by cases h
  | [], [], _ :: _, _, _, h, _ => by cases h
  | _ :: _, [], _, _, _, h, _ => by cases h
  | _ :: _, _ :: _, [], _, _, h, _ => by cases h
  | t :: ts, v :: vs, d :: ds, ps, ht, h, hlt => by
    obtain ⟨p, q, h1, h2, rfl⟩ := h
    exact ⟨p, q, Below.trod hl (ht t (by simp)).1 (ht t (by simp)).2 h1 hb (fun x hx => hlt x (by simp [hx])), trodAll_below hl hb ts vs ds q (fun t h => ht t (by simp [h])) h2 (fun x hx => hlt x (by simp [hx])), rfl⟩

/-- A law's contract, out of a contract in the calculus. -/
theorem law_post {f : Func} {fid : FuncId} {s : ChangeSpec} {args : Array Value} {ds gs : List (DataW H)} {before : List MemPlace} {base n : Nat} {tys : List Ty} {tb : TypeId} (hl : laidOutB P = true)
    (hrdB : (f.params.toList.all fun t => P.readableRec t && decide (t < P.types.size)) = true) (hvars : s.vars = []) (hres : f.resultTypes = #[tb]) (htb : P.underlying tb = some .bool) (hty : tysAll P n f.params.toList = some tys)
    (hspec : ∀ ds : List (DataW H), ds.length = f.params.toList.length → (s.fn H (ds ++ [])).results = [.lit (.bool true)] ∧ (s.fn H (ds ++ [])).args = ds ∧ (s.fn H (ds ++ [])).vars = [])
    (hval : ∀ (j : Nat) t v, f.params[j]? = some t → args[j]? = some v → Value.okWide P w .any base t v)
    (hW : DataW.Whole enc P f.params.toList s.vars false w args.toList ds gs before)
    (hp : ∀ xs, HasAll tys xs → Pure P fid xs (.v (.bool true))) :
    Calls P fid args w fun e W' => ∃ v, e = .returned v ∧ s.post enc P f false true false false w args v W' := by
  have hrd : ∀ t ∈ f.params.toList, P.readableRec t = true ∧ t < P.types.size := fun t ht => by
    have := List.all_eq_true.1 hrdB t ht
    simpa using this
  have hW0 := hW
  have hlt := hW.lt
  obtain ⟨p, q, hA, hV, rfl, hfz, hnd⟩ := hW
  rw [hvars] at hV
  have hg : gs = [] ∧ q = [] := by
    cases gs with
    | nil => exact ⟨rfl, hV⟩
    | cons => exact hV.elim
  obtain ⟨rfl, rfl⟩ := hg
  obtain ⟨xs, h1, h2⟩ := args_rel f.params.toList tys args.toList ds p hty hA (fun j t v h1 h2 => hval j t v (by simpa using h1) (by simpa using h2))
  have hc := hp xs h2 w args.toList h1
  simp only [Array.toArray_toList] at hc
  refine hc.mono fun e W' ⟨u, he, hu, hb⟩ => ?_
  simp only [Rel] at hu
  subst hu
  have hlen : ds.length = f.params.toList.length := by
    have : ∀ (ts : List TypeId) (vs : List Value) (ds : List (DataW H)) (ps : List MemPlace), DataW.TrodAll enc P w 0 (fun _ => true) true ts vs ds ps → ds.length = ts.length := by
      intro ts
      induction ts with
      | nil => intro vs ds ps h; cases vs <;> cases ds <;> first | rfl | exact h.elim
      | cons t ts ih =>
        intro vs ds ps h
        match vs, ds, h with
        | v :: vs, d :: ds, h => obtain ⟨p, q, _, h2, _⟩ := h; simp [ih vs ds q h2]
    exact this _ _ _ _ hA
  obtain ⟨s1, s2, s3⟩ := hspec ds hlen
  refine ⟨_, he, ds, [], p ++ [], [], p, [], hW0, ?_, ?_, ?_, hb.frame _, fun h => by cases h⟩
  · rw [s1, hres]
    exact trodAll_mk1 (shut_bool htb true)
  · rw [s2]
    exact trodAll_below hl hb _ _ _ _ hrd hA (fun x hx => hlt x (by simp [hx]))
  · rw [s3, hvars]; rfl

end
end Go.V
