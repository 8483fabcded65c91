/- From a contract in the calculus to a statement of the given form: what is handed in reads as plain data. -/
import Derived.Test.YtmnmaakaneaiaaaDoorK1
import Derived.ProofKit
import Derived.Laws.BytesArg
import Derived.Laws.IdiomStrings
import Derived.Great.BuildSlice
import Derived.Laws.PanicsMore
import Derived.Lib.SliceRun

namespace Go.V
open Go Go.RowKit Go.ChangeShapes Go.WideShapes Go.ChangeAt

inductive Ty where
  | int (k : IntKind)
  | str
  | bool
  | slice (e : Ty)
  | struct (l : List Ty)

mutual
def Ty.cells : Ty → Nat
  | .struct l => Ty.cellsL l
  | _ => 1
def Ty.cellsL : List Ty → Nat
  | [] => 0
  | t :: l => t.cells + Ty.cellsL l
end

mutual
/-- The plain data of a type. -/
def Ty.Has : Ty → List PV → Prop
  | .int k, l => ∃ n, l = [.v (.int k n)] ∧ (Lit.int k n).wf = true
  | .str, l => ∃ s : List UInt8, l = [.v (V.str s)] ∧ s.length ≤ maxLen
  | .bool, l => ∃ b, l = [.v (.bool b)]
  | .slice e, l => ∃ rows, l = [.sl e.cells rows] ∧ (∀ r ∈ rows, e.Has r) ∧ rows.length ≤ maxLen
  | .struct ts, l => Ty.HasL ts l
def Ty.HasL : List Ty → List PV → Prop
  | [], l => l = []
  | t :: ts, l => ∃ a b, l = a ++ b ∧ t.Has a ∧ Ty.HasL ts b
end

def tysOf (P : Program) (rec : TypeId → Option Ty) : List Field → Nat → Option (List Ty)
  | [], _ => some []
  | f :: fs, off => match rec f.type with
    | some t => if f.offset = off ∧ P.cellsOf f.type = t.cells then (match tysOf P rec fs (off + t.cells) with
      | some l => some (t :: l)
      | none => none) else none
    | none => none

def tyOf (P : Program) : Nat → TypeId → Option Ty
  | 0, _ => none
  | n + 1, T => match P.underlying T with
    | some (.int k) => some (.int k)
    | some .string => some .str
    | some .bool => some .bool
    | some (.slice e) => match tyOf P n e with
      | some t => if P.cellsOf e = t.cells ∧ 0 < t.cells then some (.slice t) else none
      | none => none
    | some (.struct fs) => match tysOf P (tyOf P n) fs.toList 0 with
      | some l => if P.cellsOf T = Ty.cellsL l then some (.struct l) else none
      | none => none
    | _ => none

mutual
theorem Ty.Has.length : ∀ (t : Ty) (l : List PV), t.Has l → l.length = t.cells
  | .int _, l, h => by simp only [Ty.Has] at h; obtain ⟨n, rfl, _⟩ := h; rfl
  | .str, l, h => by simp only [Ty.Has] at h; obtain ⟨n, rfl, _⟩ := h; rfl
  | .bool, l, h => by simp only [Ty.Has] at h; obtain ⟨n, rfl⟩ := h; rfl
  | .slice _, l, h => by simp only [Ty.Has] at h; obtain ⟨n, rfl, _⟩ := h; rfl
  | .struct ts, l, h => by simp only [Ty.Has] at h; exact Ty.HasL.length ts l h
theorem Ty.HasL.length : ∀ (ts : List Ty) (l : List PV), Ty.HasL ts l → l.length = Ty.cellsL ts
  | [], l, h => by simp only [Ty.HasL] at h; subst h; rfl
  | t :: ts, l, h => by
    simp only [Ty.HasL] at h
    obtain ⟨a, b, rfl, h1, h2⟩ := h
    simp only [List.length_append, Ty.cellsL, Ty.Has.length t a h1, Ty.HasL.length ts b h2]
end

section
variable {H : Type} {enc : TypeId × Value → H} {P : Program} {w : World}

theorem fields_rel {base : Nat} {spare : Nat → Bool} {held : Bool} {n : Nat} {rec : TypeId → Option Ty}
    (ih : ∀ T ty cs x, rec T = some ty → DataW.trod enc P w base spare held n T cs = some x → ∃ l, RelL (fun _ => False) w l cs ∧ ty.Has l) :
    ∀ (fs : List Field) (off : Nat) (tys : List Ty) (cs : List Value) (xs : List (DataW H × List MemPlace)), tysOf P rec fs off = some tys → cs.length = off + Ty.cellsL tys →
      (∀ (i : Nat) (f : Field), fs[i]? = some f → DataW.trod enc P w base spare held n f.type ((cs.drop f.offset).take (P.cellsOf f.type)) = xs[i]?) → fs.length ≤ xs.length →
      ∃ l, RelL (fun _ => False) w l (cs.drop off) ∧ Ty.HasL tys l
  | [], off, tys, cs, xs, ht, hl, _, _ => by
    simp only [tysOf, Option.some.injEq] at ht; subst ht
    simp only [Ty.cellsL, Nat.add_zero] at hl
    exact ⟨[], by simp [RelL, ← hl], by simp [Ty.HasL]⟩
  | f :: fs, off, tys, cs, xs, ht, hl, hx, hlen => by
    simp only [tysOf] at ht
    cases hf : rec f.type with
    | none => rw [hf] at ht; cases ht
    | some t =>
      rw [hf] at ht
      simp only at ht
      split at ht
      · next hoff =>
        cases hr : tysOf P rec fs (off + t.cells) with
        | none => rw [hr] at ht; cases ht
        | some l' =>
          rw [hr] at ht
          simp only [Option.some.injEq] at ht; subst ht
          simp only [Ty.cellsL] at hl
          cases xs with
          | nil => simp at hlen
          | cons x xs =>
            have h0 := hx 0 f (by simp)
            simp only [List.getElem?_cons_zero] at h0
            obtain ⟨a, ha1, ha2⟩ := ih _ _ _ _ hf h0
            rw [hoff.1, hoff.2] at ha1
            obtain ⟨b, hb1, hb2⟩ := fields_rel ih fs (off + t.cells) l' cs xs hr (by omega) (fun i g hg => by have := hx (i + 1) g (by simpa using hg); simpa using this) (by simpa using hlen)
            refine ⟨a ++ b, ?_, by simp only [Ty.HasL]; exact ⟨a, b, rfl, ha2, hb2⟩⟩
            have : cs.drop off = (cs.drop off).take t.cells ++ cs.drop (off + t.cells) := by rw [← List.drop_drop, List.take_append_drop]
            rw [this]
            exact relL_append _ _ _ _ ha1 hb1
      · cases ht

theorem mapM_some {α β : Type} (f : α → Option β) : ∀ (l : List α) (r : List β), l.mapM f = some r → r.length = l.length ∧ ∀ (i : Nat) (a : α), l[i]? = some a → f a = r[i]? := by
  intro l
  induction l with
  | nil => intro r h; simp at h; subst h; simp
  | cons a l ih =>
    intro r h
    simp only [List.mapM_cons, Option.bind_eq_bind, Option.bind_eq_some_iff, Option.pure_def, Option.some.injEq] at h
    obtain ⟨b, h1, bs, h2, rfl⟩ := h
    obtain ⟨h3, h4⟩ := ih bs h2
    refine ⟨by simp [h3], fun i x hx => ?_⟩
    cases i with
    | zero => simp at hx; subst hx; simpa using h1
    | succ i => simp at hx; simpa using h4 i x hx

theorem rows_exist {R : Nat → List PV → Prop} : ∀ (len : Nat), (∀ i, i < len → ∃ r, R i r) → ∃ rows : List (List PV), rows.length = len ∧ ∀ i r, rows[i]? = some r → R i r
  | 0, _ => ⟨[], rfl, by simp⟩
  | len + 1, h => by
    obtain ⟨rows, h1, h2⟩ := rows_exist len (fun i hi => h i (by omega))
    obtain ⟨r, h3⟩ := h len (by omega)
    refine ⟨rows ++ [r], by simp [h1], fun i q hq => ?_⟩
    by_cases hi : i < rows.length
    · rw [List.getElem?_append_left hi] at hq; exact h2 i q hq
    · rw [List.getElem?_append_right (by omega)] at hq
      have hi0 : i = len := by
        have := (List.getElem?_eq_some_iff.1 hq).1
        simp at this; omega
      subst hi0
      simp [h1] at hq; subst hq; exact h3

theorem trod_rel {base : Nat} {spare : Nat → Bool} {held : Bool} : ∀ (n m : Nat) (T : TypeId) (ty : Ty) (cs : List Value) (x : DataW H × List MemPlace), tyOf P n T = some ty → DataW.trod enc P w base spare held m T cs = some x →
    ∃ l, RelL (fun _ => False) w l cs ∧ ty.Has l
  | 0, _, _, _, _, _, h, _ => by cases h
  | n + 1, m, T, ty, cs, x, h, hx => by
    simp only [tyOf] at h
    cases hu : P.underlying T with
    | none => rw [hu] at h; cases h
    | some D =>
      rw [hu] at h
      cases D with
      | int k =>
        simp only [Option.some.injEq] at h; subst h
        obtain ⟨i, rfl, _, hw⟩ := DataW.trod_int hu hx
        exact ⟨[.v (.int k i)], by simp [RelL, Rel], by simp only [Ty.Has]; exact ⟨i, rfl, hw⟩⟩
      | bool =>
        simp only [Option.some.injEq] at h; subst h
        obtain ⟨b, rfl, _⟩ := DataW.trod_bool hu hx
        exact ⟨[.v (.bool b)], by simp [RelL, Rel], by simp only [Ty.Has]; exact ⟨b, rfl⟩⟩
      | string =>
        simp only [Option.some.injEq] at h; subst h
        obtain ⟨s, rfl, _, hs⟩ := DataW.trod_string hu hx
        refine ⟨[.v (V.str s.data.toList)], ?_, by simp only [Ty.Has]; exact ⟨_, rfl, by rw [Array.length_toList]; exact hs⟩⟩
        simp [RelL, Rel, V.str]
      | slice e =>
        simp only at h
        cases he : tyOf P n e with
        | none => rw [he] at h; cases h
        | some te =>
          rw [he] at h
          simp only at h
          split at h
          · next hc =>
            simp only [Option.some.injEq] at h; subst h
            cases m with
            | zero => simp [DataW.trod] at hx
            | succ m =>
              unfold DataW.trod at hx
              rw [hu] at hx
              split at hx <;> simp only [Option.some.injEq, reduceCtorEq, TypeDesc.slice.injEq] at * <;> try (simp at hx; done)
              · refine ⟨[.sl te.cells []], ?_, by simp only [Ty.Has]; exact ⟨[], rfl, by simp, by simp⟩⟩
                simp only [RelL, Rel]
                exact ⟨_, _, rfl, ⟨none, 0, rfl, Nat.le_refl _, .inl trivial⟩, rfl⟩
              · next E a len cap hE =>
                subst hE
                split at hx
                · next hcond =>
                  obtain ⟨hbase, hlc, hcm⟩ := hcond
                  simp only [Option.bind_eq_some_iff] at hx
                  obtain ⟨elems, hel, _⟩ := hx
                  obtain ⟨hl1, hl2⟩ := mapM_some _ _ _ hel
                  simp only [List.length_range] at hl1
                  have hrow : ∀ i, i < len → ∃ r : List PV, te.Has r ∧ ∃ us, w.cells? base (a.add (i * P.cellsOf e)) (P.cellsOf e) = some us ∧ RelL (fun _ => False) w r us := by
                    intro i hi
                    have := hl2 i i (by simp [hi])
                    rw [List.getElem?_eq_getElem (by omega)] at this
                    obtain ⟨us, h1, h2⟩ := Option.bind_eq_some_iff.1 this
                    obtain ⟨r, h3, h4⟩ := trod_rel n m e te us _ he h2
                    exact ⟨r, h4, us, h1, h3⟩
                  by_cases hlen0 : len = 0
                  · subst hlen0
                    refine ⟨[.sl te.cells []], ?_, by simp only [Ty.Has]; exact ⟨[], rfl, by simp, by simp⟩⟩
                    simp only [RelL, Rel]
                    exact ⟨_, _, rfl, ⟨some a, cap, rfl, by simp, .inl trivial⟩, rfl⟩
                  · have hall := rows_exist (R := fun i r => te.Has r ∧ ∃ us, w.cells? base (a.add (i * P.cellsOf e)) (P.cellsOf e) = some us ∧ RelL (fun _ => False) w r us) len hrow
                    obtain ⟨rows, hr1, hr2⟩ := hall
                    have haddr : ∃ b o, a = ⟨b, o, none⟩ ∧ b < w.heap.size := by
                      obtain ⟨r, h1⟩ : ∃ r, rows[0]? = some r := ⟨_, List.getElem?_eq_getElem (by omega)⟩
                      obtain ⟨h2, us, h3, h4⟩ := hr2 0 r h1
                      obtain ⟨_, h5, h6⟩ := World.cells?_some h3
                      have h7 := h6 0 (by omega)
                      simp only [Nat.zero_mul, Addr.add, if_true] at h7
                      rw [List.getElem?_eq_getElem (by omega)] at h7
                      obtain ⟨b, o, sp⟩ := a
                      refine ⟨b, o, ?_, block_lt_of_cell h7⟩
                      cases sp with
                      | none => rfl
                      | some s =>
                        simp only [World.cell?] at h7
                        split at h7 <;> simp at h7
                    refine ⟨[.sl te.cells rows], ?_, by simp only [Ty.Has]; exact ⟨rows, rfl, fun r hr => by obtain ⟨i, hi⟩ := List.getElem?_of_mem hr; exact (hr2 i r hi).1, by omega⟩⟩
                    simp only [RelL, Rel]
                    obtain ⟨b, o, ha, hb⟩ := haddr
                    · subst ha
                      refine ⟨_, _, rfl, ⟨some ⟨b, o, none⟩, cap, by rw [hr1], by omega, .inr ⟨b, o, rfl, fun h => h, hb, ?_⟩⟩, rfl⟩
                      refine relRows_of_at rows o (fun r hr => by obtain ⟨i, hi⟩ := List.getElem?_of_mem hr; exact Ty.Has.length te r (hr2 i r hi).1) (fun i r hi => ?_)
                      obtain ⟨h2, us, h3, h4⟩ := hr2 i r hi
                      obtain ⟨_, h5, h6⟩ := World.cells?_some h3
                      refine relAt_of_relL r _ us (fun j u hj => ?_) h4
                      have hjl : j < us.length := (List.getElem?_eq_some_iff.1 hj).1
                      have := h6 j (by omega)
                      rw [add_plain, add_plain, hc.1] at this
                      rw [this]; exact hj
                · simp at hx
          · cases h
      | struct fs =>
        simp only at h
        cases hf : tysOf P (tyOf P n) fs.toList 0 with
        | none => rw [hf] at h; cases h
        | some l =>
          rw [hf] at h
          simp only at h
          split at h
          · next hc =>
            simp only [Option.some.injEq] at h; subst h
            obtain ⟨xs, m', rfl, _, hcl, hxl, hfs⟩ := DataW.trod_struct hu hx
            obtain ⟨r, h1, h2⟩ := fields_rel (fun T ty cs x h hx => trod_rel n m' T ty cs x h hx) fs.toList 0 l cs xs hf (by omega) (fun i f hi => hfs i f (by simpa using hi)) (by simp [hxl])
            exact ⟨r, by simpa using h1, by simp only [Ty.Has]; exact h2⟩
          · cases h
      | _ => cases h

/-- The plain data of an argument. -/
def Ty.HasA : Ty → PV → Prop
  | .struct ts, x => ∃ l, x = .agg l ∧ Ty.HasL ts l
  | t, x => t.Has [x]
def HasAll : List Ty → List PV → Prop
  | [], l => l = []
  | t :: ts, l => ∃ x l', l = x :: l' ∧ t.HasA x ∧ HasAll ts l'
def tysAll (P : Program) (n : Nat) : List TypeId → Option (List Ty)
  | [] => some []
  | T :: l => match tyOf P n T with
    | some t => match tysAll P n l with
      | some r => some (t :: r)
      | none => none
    | none => none

theorem noAgg {r : Reach} {base : Nat} {T : TypeId} {v : Value} (hok : Value.okWide P w r base T v) (h : ∀ fs, P.underlying T ≠ some (.struct fs)) (h2 : ∀ n e, P.underlying T ≠ some (.array n e)) : v.cells = #[v] := by
  cases v with
  | agg cs =>
    exfalso
    unfold Value.okWide at hok
    split at hok
    · next e => exact h _ e
    · next e => exact h2 _ _ e
    · unfold Cell.okWide at hok
      split at hok
      all_goals try (simp_all; done)
      unfold Cell.ok at hok
      split at hok <;> simp_all
  | _ => rfl

theorem arg_rel {r : Reach} {base base' n : Nat} {spare : Nat → Bool} {held : Bool} {T : TypeId} {ty : Ty} {v : Value} {d : DataW H} {ps : List MemPlace} (hty : tyOf P n T = some ty) (hok : Value.okWide P w r base T v)
    (h : DataW.Trod enc P w base' spare held T v d ps) : ∃ x, Rel (fun _ => False) w x v ∧ ty.HasA x := by
  obtain ⟨m, hm⟩ := h
  obtain ⟨l, h1, h2⟩ := trod_rel n m T ty _ _ hty hm
  have scalar : (∀ ts, ty ≠ .struct ts) → ∃ x, Rel (fun _ => False) w x v ∧ ty.HasA x := by
    intro hns
    have hu : (∀ fs, P.underlying T ≠ some (.struct fs)) ∧ (∀ n e, P.underlying T ≠ some (.array n e)) := by
      cases n with
      | zero => cases hty
      | succ n =>
        simp only [tyOf] at hty
        constructor
        · intro fs hfs
          rw [hfs] at hty
          simp only at hty
          split at hty
          · split at hty
            · simp only [Option.some.injEq] at hty; exact hns _ hty.symm
            · cases hty
          · cases hty
        · intro n e he; rw [he] at hty; cases hty
    have hv := noAgg hok hu.1 hu.2
    have hl := Ty.Has.length ty l h2
    have hc1 : ty.cells = 1 := by cases ty <;> first | rfl | exact absurd rfl (hns _)
    rw [hc1] at hl
    match l, hl with
    | [x], _ =>
      rw [hv] at h1
      simp only [RelL] at h1
      obtain ⟨u, us', e, h3, h4⟩ := h1
      simp only [List.cons.injEq] at e
      obtain ⟨rfl, rfl⟩ := e
      refine ⟨x, h3, ?_⟩
      cases ty <;> first | exact h2 | exact absurd rfl (hns _)
  cases ty with
  | struct ts =>
    have hu : ∃ fs, P.underlying T = some (.struct fs) := by
      cases n with
      | zero => cases hty
      | succ n =>
        simp only [tyOf] at hty
        cases hu : P.underlying T with
        | none => rw [hu] at hty; cases hty
        | some D =>
          rw [hu] at hty
          cases D with
          | struct fs => exact ⟨fs, rfl⟩
          | slice e => simp only at hty; (repeat' split at hty) <;> cases hty
          | _ => cases hty
    obtain ⟨fs, hu⟩ := hu
    unfold Value.okWide at hok
    rw [hu] at hok
    obtain ⟨cs, rfl, _⟩ := hok
    simp only [Ty.Has] at h2
    exact ⟨.agg l, by simp only [Rel]; exact ⟨cs, rfl, h1⟩, l, rfl, h2⟩
  | _ => exact scalar (fun ts h => by cases h)

theorem args_rel {r : Reach} {base n : Nat} {spare : Nat → Bool} {held : Bool} : ∀ (ts : List TypeId) (tys : List Ty) (vs : List Value) (ds : List (DataW H)) (ps : List MemPlace), tysAll P n ts = some tys →
    DataW.TrodAll enc P w 0 spare held ts vs ds ps → (∀ (j : Nat) t v, ts[j]? = some t → vs[j]? = some v → Value.okWide P w r base t v) → ∃ xs, RelL (fun _ => False) w xs vs ∧ HasAll tys xs
  | [], tys, vs, ds, ps, ht, h, _ => by
    simp only [tysAll, Option.some.injEq] at ht; subst ht
    cases vs with
    | nil => exact ⟨[], by simp [RelL], by simp [HasAll]⟩
    | cons => cases ds <;> exact h.elim
  | T :: ts, tys, vs, ds, ps, ht, h, hok => by
    simp only [tysAll] at ht
    cases hT : tyOf P n T with
    | none => rw [hT] at ht; cases ht
    | some t =>
      rw [hT] at ht
      simp only at ht
      cases hl : tysAll P n ts with
      | none => rw [hl] at ht; cases ht
      | some l =>
        rw [hl] at ht
        simp only [Option.some.injEq] at ht; subst ht
        match vs, ds, h with
        | v :: vs, d :: ds, h =>
          obtain ⟨p, q, h1, h2, rfl⟩ := h
          obtain ⟨x, e1, e2⟩ := arg_rel hT (hok 0 T v rfl rfl) h1
          obtain ⟨xs, e3, e4⟩ := args_rel ts l vs ds q hl h2 (fun j t v h1 h2 => hok (j + 1) t v (by simpa using h1) (by simpa using h2))
          exact ⟨x :: xs, by simp only [RelL]; exact ⟨v, vs, rfl, e1, e3⟩, by simp only [HasAll]; exact ⟨x, xs, rfl, e2, e4⟩⟩

theorem trodAll_below (hl : laidOutB P = true) {w' : World} (hb : Below w.heap.size w w') : ∀ (ts : List TypeId) (vs : List Value) (ds : List (DataW H)) (ps : List MemPlace), (∀ t ∈ ts, P.readableRec t = true ∧ t < P.types.size) →
    DataW.TrodAll enc P w 0 (fun _ => true) true ts vs ds ps → (∀ x ∈ ps, x.block < w.heap.size) → DataW.TrodAll enc P w' 0 (fun b => decide (b < w.heap.size)) true ts vs ds ps
  | [], [], [], _, _, h, _ => h
  | [], _ :: _, _, _, _, h, _ => by cases h
  | [], [], _ :: _, _, _, h, _ => by cases h
  | _ :: _, [], _, _, _, h, _ => by cases h
  | _ :: _, _ :: _, [], _, _, h, _ => by cases h
  | t :: ts, v :: vs, d :: ds, ps, ht, h, hlt => by
    obtain ⟨p, q, h1, h2, rfl⟩ := h
    exact ⟨p, q, Below.trod hl (ht t (by simp)).1 (ht t (by simp)).2 h1 hb (fun x hx => hlt x (by simp [hx])), trodAll_below hl hb ts vs ds q (fun t h => ht t (by simp [h])) h2 (fun x hx => hlt x (by simp [hx])), rfl⟩

/-- A law's contract, out of a contract in the calculus. -/
theorem law_post {f : Func} {fid : FuncId} {s : ChangeSpec} {args : Array Value} {ds gs : List (DataW H)} {before : List MemPlace} {base n : Nat} {tys : List Ty} {tb : TypeId} (hl : laidOutB P = true)
    (hrdB : (f.params.toList.all fun t => P.readableRec t && decide (t < P.types.size)) = true) (hvars : s.vars = []) (hres : f.resultTypes = #[tb]) (htb : P.underlying tb = some .bool) (hty : tysAll P n f.params.toList = some tys)
    (hspec : ∀ ds : List (DataW H), ds.length = f.params.toList.length → (s.fn H (ds ++ [])).results = [.lit (.bool true)] ∧ (s.fn H (ds ++ [])).args = ds ∧ (s.fn H (ds ++ [])).vars = [])
    (hval : ∀ (j : Nat) t v, f.params[j]? = some t → args[j]? = some v → Value.okWide P w .any base t v)
    (hW : DataW.Whole enc P f.params.toList s.vars false w args.toList ds gs before)
    (hp : ∀ xs, HasAll tys xs → Pure P fid xs (.v (.bool true))) :
    Calls P fid args w fun e W' => ∃ v, e = .returned v ∧ s.post enc P f false true false false w args v W' := by
  have hrd : ∀ t ∈ f.params.toList, P.readableRec t = true ∧ t < P.types.size := fun t ht => by
    have := List.all_eq_true.1 hrdB t ht
    simpa using this
  have hW0 := hW
  have hlt := hW.lt
  obtain ⟨p, q, hA, hV, rfl, hfz, hnd⟩ := hW
  rw [hvars] at hV
  have hg : gs = [] ∧ q = [] := by
    cases gs with
    | nil => exact ⟨rfl, hV⟩
    | cons => exact hV.elim
  obtain ⟨rfl, rfl⟩ := hg
  obtain ⟨xs, h1, h2⟩ := args_rel f.params.toList tys args.toList ds p hty hA (fun j t v h1 h2 => hval j t v (by simpa using h1) (by simpa using h2))
  have hc := hp xs h2 w args.toList h1
  simp only [Array.toArray_toList] at hc
  refine hc.mono fun e W' ⟨u, he, hu, hb⟩ => ?_
  simp only [Rel] at hu
  subst hu
  have hlen : ds.length = f.params.toList.length := by
    have : ∀ (ts : List TypeId) (vs : List Value) (ds : List (DataW H)) (ps : List MemPlace), DataW.TrodAll enc P w 0 (fun _ => true) true ts vs ds ps → ds.length = ts.length := by
      intro ts
      induction ts with
      | nil => intro vs ds ps h; cases vs <;> cases ds <;> first | rfl | exact h.elim
      | cons t ts ih =>
        intro vs ds ps h
        match vs, ds, h with
        | v :: vs, d :: ds, h => obtain ⟨p, q, _, h2, _⟩ := h; simp [ih vs ds q h2]
    exact this _ _ _ _ hA
  obtain ⟨s1, s2, s3⟩ := hspec ds hlen
  refine ⟨_, he, ds, [], p ++ [], [], p, [], hW0, ?_, ?_, ?_, hb.frame _, fun h => by cases h⟩
  · rw [s1, hres]
    exact trodAll_mk1 (shut_bool htb true)
  · rw [s2]
    exact trodAll_below hl hb _ _ _ _ hrd hA (fun x hx => hlt x (by simp [hx]))
  · rw [s3, hvars]; rfl

end
end Go.V
/- Plain data of the program's types, and lists of them as rows of cells. -/
namespace Go.V
open Go

structure Sample where
  sent : Int
  other : Int
  back : Int
  deriving DecidableEq, Inhabited
def encSample (x : Sample) : List PV := [.v (.int .i64 x.sent), .v (.int .i64 x.other), .v (.int .i64 x.back)]
structure CMark where
  az : Int
  al : Int
  found : Int
  height : Int
  deriving DecidableEq, Inhabited
def encCMark (x : CMark) : List PV := [.v (.int .i64 x.az), .v (.int .i64 x.al), .v (.int .i64 x.found), .v (.int .i64 x.height)]
structure Session where
  day : Int
  turn : Int
  lift : Int
  error : Int
  deriving DecidableEq, Inhabited
def encSession (x : Session) : List PV := [.v (.int .i64 x.day), .v (.int .i64 x.turn), .v (.int .i64 x.lift), .v (.int .i64 x.error)]
structure Mach where
  name : List UInt8
  offset : Int
  delay : Int
  deriving DecidableEq, Inhabited
def encMach (x : Mach) : List PV := [.v (str x.name), .v (.int .i64 x.offset), .v (.int .i64 x.delay)]
/-- A name and a number: a file and its size, a need and its time, a setting and its value. -/
structure NV where
  name : List UInt8
  val : Int
  deriving DecidableEq, Inhabited
def encNV (x : NV) : List PV := [.v (str x.name), .v (.int .i64 x.val)]
structure Group where
  name : List UInt8
  persons : Int
  wish : Int
  deriving DecidableEq, Inhabited
def encGroup (x : Group) : List PV := [.v (str x.name), .v (.int .i64 x.persons), .v (.int .i64 x.wish)]
def encI (x : Int) : List PV := [.v (.int .i64 x)]
def encS (x : List UInt8) : List PV := [.v (str x)]

theorem flatSample (x : Sample) : PV.FlatL (encSample x) := by simp [encSample, PV.FlatL, PV.Flat]
theorem flatCMark (x : CMark) : PV.FlatL (encCMark x) := by simp [encCMark, PV.FlatL, PV.Flat]
theorem flatSession (x : Session) : PV.FlatL (encSession x) := by simp [encSession, PV.FlatL, PV.Flat]
theorem flatMach (x : Mach) : PV.FlatL (encMach x) := by simp [encMach, PV.FlatL, PV.Flat]
theorem flatNV (x : NV) : PV.FlatL (encNV x) := by simp [encNV, PV.FlatL, PV.Flat]
theorem flatGroup (x : Group) : PV.FlatL (encGroup x) := by simp [encGroup, PV.FlatL, PV.Flat]
theorem flatI (x : Int) : PV.FlatL (encI x) := by simp [encI, PV.FlatL, PV.Flat]
theorem flatS (x : List UInt8) : PV.FlatL (encS x) := by simp [encS, PV.FlatL, PV.Flat]
theorem flat_map {α : Type} {enc : α → List PV} (h : ∀ x, PV.FlatL (enc x)) (xs : List α) : ∀ r ∈ xs.map enc, PV.FlatL r := by
  intro r hr
  obtain ⟨x, _, rfl⟩ := List.mem_map.1 hr
  exact h x

/-- A list that is being filled: the first k are there, the rest still blank. -/
def filled {α : Type} (enc : α → List PV) (z : List PV) (xs : List α) (k : Nat) : List (List PV) := (xs.take k).map enc ++ List.replicate (xs.length - k) z
section
variable {α : Type} {enc : α → List PV} {z : List PV} {xs : List α} {k : Nat} {x : α}
theorem filled_zero : filled enc z xs 0 = List.replicate xs.length z := by simp [filled]
theorem filled_end : filled enc z xs xs.length = xs.map enc := by simp [filled]
theorem filled_length (h : k ≤ xs.length) : (filled enc z xs k).length = xs.length := by simp [filled]; omega
theorem filled_get (h : k < xs.length) : (filled enc z xs k)[k]? = some z := by
  unfold filled
  rw [List.getElem?_append_right (by simp; omega)]
  simp [List.getElem?_replicate]
  omega
theorem filled_set (h : xs[k]? = some x) : (filled enc z xs k).set k (enc x) = filled enc z xs (k + 1) := by
  have hk : k < xs.length := (List.getElem?_eq_some_iff.1 h).1
  unfold filled
  rw [List.set_append_right _ _ (by simp; omega)]
  have e1 : (List.map enc (List.take k xs)).length = k := by simp; omega
  rw [e1, Nat.sub_self, show xs.length - k = (xs.length - (k + 1)) + 1 by omega, List.replicate_succ, List.set_cons_zero, List.take_add_one, h]
  simp
end

theorem get_some {α : Type} {xs : List α} {k : Nat} (h : k < xs.length) : ∃ x, xs[k]? = some x := ⟨_, List.getElem?_eq_getElem h⟩
theorem take_snoc {α : Type} {xs : List α} {k : Nat} {x : α} (h : xs[k]? = some x) : xs.take (k + 1) = xs.take k ++ [x] := by rw [List.take_add_one, h]; rfl
theorem lt_of_get {α : Type} {xs : List α} {k : Nat} {x : α} (h : xs[k]? = some x) : k < xs.length := (List.getElem?_eq_some_iff.1 h).1
/-- From a test of a loop. -/
theorem lt_of_dec {k n : Nat} (h : decide ((k : Int) < (n : Int)) = true) : k < n := by simpa using h
theorem ge_of_dec {k n : Nat} (h : decide ((k : Int) < (n : Int)) = false) : n ≤ k := by simpa using h
theorem lt_of_decM {α β : Type} {k : Nat} {xs : List α} {f : α → β} (h : decide ((k : Int) < ((xs.map f).length : Int)) = true) : k < xs.length := by simpa using h
theorem ge_of_decM {α β : Type} {k : Nat} {xs : List α} {f : α → β} (h : decide ((k : Int) < ((xs.map f).length : Int)) = false) : xs.length ≤ k := by simpa using h

theorem wf_i64 {n : Int} (h : (Lit.int .i64 n).wf = true) : -9223372036854775808 ≤ n ∧ n ≤ 9223372036854775807 := by
  simpa [Lit.wf, IntKind.min, IntKind.max, IntKind.signed, IntKind.bits] using h

/-- Rows of a type are rows of a list. -/
theorem rows_of {α : Type} {enc : α → List PV} {good : α → Prop} {e : Ty} (h : ∀ r, e.Has r → ∃ x, r = enc x ∧ good x) : ∀ rows : List (List PV), (∀ r ∈ rows, e.Has r) → ∃ xs : List α, rows = xs.map enc ∧ ∀ x ∈ xs, good x
  | [], _ => ⟨[], rfl, by simp⟩
  | r :: rows, hr => by
    obtain ⟨x, rfl, hx⟩ := h r (hr r (by simp))
    obtain ⟨xs, rfl, hxs⟩ := rows_of h rows (fun q hq => hr q (by simp [hq]))
    exact ⟨x :: xs, rfl, by simpa using ⟨hx, hxs⟩⟩

/-! Lists whose elements are all right and rise. -/
section
variable {α : Type} (one : α → Bool) (ge : α → α → Bool) (xs : List α)
def okTo : Nat → Bool
  | 0 => true
  | k + 1 => okTo k && (match xs[k]? with
    | none => true
    | some x => one x && (match k with
      | 0 => true
      | j + 1 => match xs[j]? with
        | none => true
        | some y => !ge y x))
def okB : Bool := okTo one ge xs xs.length
variable {one ge xs} {k : Nat} {x y : α}
theorem okTo_mono {j k : Nat} (h : j ≤ k) (hk : okTo one ge xs k = true) : okTo one ge xs j = true := by
  induction k with
  | zero => obtain rfl : j = 0 := by omega
            rfl
  | succ k ih =>
    by_cases e : j = k + 1
    · subst e; exact hk
    · simp only [okTo, Bool.and_eq_true] at hk; exact ih (by omega) hk.1
theorem okB_false {j : Nat} (h : j ≤ xs.length) (hj : okTo one ge xs j = false) : okB one ge xs = false := by
  cases hb : okB one ge xs with
  | false => rfl
  | true => have := okTo_mono (one := one) (ge := ge) (xs := xs) h hb; rw [hj] at this; cases this
theorem ok_one (hx : xs[k]? = some x) (h : one x = false) : okB one ge xs = false := by
  refine okB_false (j := k + 1) (lt_of_get hx) ?_
  simp [okTo, hx, h]
theorem ok_ge (hx : xs[k]? = some x) (hk : 0 < k) (hy : xs[k - 1]? = some y) (h : ge y x = true) : okB one ge xs = false := by
  refine okB_false (j := k + 1) (lt_of_get hx) ?_
  cases k with
  | zero => omega
  | succ j => simp at hy; simp [okTo, hx, hy, h]
theorem ok_first (h : okTo one ge xs k = true) (hx : xs[k]? = some x) (h1 : one x = true) (hk : ¬ 0 < k) : okTo one ge xs (k + 1) = true := by
  obtain rfl : k = 0 := by omega
  simp [okTo, hx, h1]
theorem ok_next (h : okTo one ge xs k = true) (hx : xs[k]? = some x) (h1 : one x = true) (hk : 0 < k) (hy : xs[k - 1]? = some y) (h2 : ge y x = false) : okTo one ge xs (k + 1) = true := by
  cases k with
  | zero => omega
  | succ j => simp at hy; simp [okTo, hx, hy, h1, h2] at h ⊢; exact h
theorem ok_all (h : okTo one ge xs xs.length = true) : okB one ge xs = true := h
end

theorem cb {a b : Bool} (h : a = b) : PV.v (.bool b) = PV.v (.bool a) := by rw [h]
theorem ci {k : IntKind} {a b : Int} (h : a = b) : PV.v (.int k b) = PV.v (.int k a) := by rw [h]

/-! Names. -/
def lowB (c : UInt8) : Bool := decide (97 ≤ (c.toNat : Int)) && decide ((c.toNat : Int) ≤ 122)
def digB (c : UInt8) : Bool := decide (48 ≤ (c.toNat : Int)) && decide ((c.toNat : Int) ≤ 57)
def isName (l : List UInt8) : Bool := decide (1 ≤ l.length) && decide (l.length ≤ 10) && (match l with
  | [] => false
  | c :: _ => lowB c) && l.all fun c => lowB c || digB c
def nameTo (l : List UInt8) (k : Nat) : Bool := (l.take k).all fun c => lowB c || digB c
theorem nameTo_succ {l : List UInt8} {k : Nat} {c : UInt8} (h : l[k]? = some c) : nameTo l (k + 1) = (nameTo l k && (lowB c || digB c)) := by
  unfold nameTo; rw [take_snoc h]; simp
theorem nameTo_all (l : List UInt8) : nameTo l l.length = l.all fun c => lowB c || digB c := by simp [nameTo]
theorem name_bad {l : List UInt8} {k : Nat} {c : UInt8} (h : l[k]? = some c) (h1 : lowB c = false) (h2 : digB c = false) : isName l = false := by
  have hm : c ∈ l := List.mem_of_getElem? h
  have : (l.all fun c => lowB c || digB c) = false := by
    rw [List.all_eq_false]; exact ⟨c, hm, by simp [h1, h2]⟩
  simp [isName, this]
theorem name_ok {l : List UInt8} {c : UInt8} (h : l[0]? = some c) (h0 : lowB c = true) (hl : l.length ≤ 10) (ha : nameTo l l.length = true) : isName l = true := by
  rw [nameTo_all] at ha
  cases l with
  | nil => simp at h
  | cons d l => simp at h; subst h; simp [isName, h0, ha] at hl ⊢; omega
theorem name_first {l : List UInt8} {c : UInt8} (h : l[0]? = some c) (h0 : lowB c = false) : isName l = false := by
  cases l with
  | nil => simp at h
  | cons d l => simp at h; subst h; simp [isName, h0]
theorem name_long {l : List UInt8} (h : 10 < l.length) : isName l = false := by simp [isName]; omega
theorem name_nil {l : List UInt8} (h : l.length = 0) : isName l = false := by simp [isName, h]
theorem u8_lt (c : UInt8) : (c.toNat : Int) < 256 ∧ 0 ≤ (c.toNat : Int) := by have := c.toNat_lt; omega
/-- What is left of a count when a text is taken off. -/
def szOne (l : List UInt8) (left : Int) : Int := if left - l.length < 0 then -1 else left - l.length

section
variable {α : Type} (f : α → List UInt8) (xs : List α)
def lensTo (k : Nat) : Int := ((xs.take k).map fun x => ((f x).length : Int)).sum
def lens : Int := (xs.map fun x => ((f x).length : Int)).sum
theorem sum_nonneg : ∀ l : List Int, (∀ x ∈ l, 0 ≤ x) → 0 ≤ l.sum
  | [], _ => by simp
  | a :: l, h => by
    have := sum_nonneg l (fun x hx => h x (by simp [hx]))
    have := h a (by simp)
    simp; omega
variable {f xs} {k : Nat} {x : α}
theorem lens_nn (l : List α) : ∀ y ∈ l.map (fun x => ((f x).length : Int)), 0 ≤ y := by
  intro y hy; obtain ⟨z, _, rfl⟩ := List.mem_map.1 hy; omega
theorem lensTo_zero : lensTo f xs 0 = 0 := rfl
theorem lensTo_succ (h : xs[k]? = some x) : lensTo f xs (k + 1) = lensTo f xs k + (f x).length := by
  unfold lensTo; rw [take_snoc h]; simp
theorem lensTo_all : lensTo f xs xs.length = lens f xs := by simp [lensTo, lens]
theorem lens_ge (k : Nat) : lensTo f xs k ≤ lens f xs := by
  unfold lensTo lens
  have : xs = xs.take k ++ xs.drop k := (List.take_append_drop k xs).symm
  conv => rhs; rw [this]
  rw [List.map_append, List.sum_append]
  have := sum_nonneg _ (lens_nn (f := f) (xs.drop k))
  omega
theorem lens_nonneg : 0 ≤ lens f xs := sum_nonneg _ (lens_nn (f := f) xs)
theorem lensTo_nonneg : 0 ≤ lensTo f xs k := sum_nonneg _ (lens_nn (f := f) _)
theorem len_le_lens (h : x ∈ xs) : ((f x).length : Int) ≤ lens f xs := by
  obtain ⟨k, hk⟩ := List.getElem?_of_mem h
  have h1 := lensTo_succ (f := f) hk
  have h2 := lens_ge (f := f) (xs := xs) (k + 1)
  have h3 : 0 ≤ lensTo f xs k := sum_nonneg _ (lens_nn (f := f) _)
  omega
end
/-- What is left of a count when a list of texts is taken off. -/
def szAll {α : Type} (f : α → List UInt8) (xs : List α) (left : Int) : Int := if left - xs.length - lens f xs < 0 then -1 else left - xs.length - lens f xs
theorem szOne_ge {l : List UInt8} {left : Int} (h : decide (szOne l left < 0) = false) : szOne l left = left - l.length ∧ 0 ≤ left - l.length := by
  simp only [decide_eq_false_iff_not] at h
  unfold szOne at h ⊢
  split at h
  · omega
  · next h1 => rw [if_neg h1]; omega
theorem szOne_lt {l : List UInt8} {left : Int} (h : decide (szOne l left < 0) = true) : left - l.length < 0 := by
  simp only [decide_eq_true_eq] at h
  unfold szOne at h
  split at h <;> omega
theorem szAll_ge {α : Type} {f : α → List UInt8} {xs : List α} {left : Int} (h : decide (szAll f xs left < 0) = false) : szAll f xs left = left - xs.length - lens f xs ∧ 0 ≤ left - xs.length - lens f xs := by
  simp only [decide_eq_false_iff_not] at h
  unfold szAll at h ⊢
  split at h
  · omega
  · next h1 => rw [if_neg h1]; omega
end Go.V
/- What is handed in, as plain data of the program's types. -/
namespace Go.V
open Go

/-- What is left of a count when a length is taken off. -/
def szLen (n : Nat) (left : Int) : Int := if left - n < 0 then -1 else left - n
theorem szLen_ge {n : Nat} {left : Int} (h : decide (szLen n left < 0) = false) : szLen n left = left - n ∧ 0 ≤ left - n := by
  simp only [decide_eq_false_iff_not] at h
  unfold szLen at h ⊢
  split at h
  · omega
  · next h1 => rw [if_neg h1]; omega

theorem hasAll_cons {t : Ty} {ts : List Ty} {l : List PV} (h : HasAll (t :: ts) l) : ∃ x l', l = x :: l' ∧ t.HasA x ∧ HasAll ts l' := by simpa only [HasAll] using h
theorem hasAll_nil {l : List PV} (h : HasAll [] l) : l = [] := by simpa only [HasAll] using h
theorem hasA_slice {e : Ty} {x : PV} (h : (Ty.slice e).HasA x) : ∃ rows, x = .sl e.cells rows ∧ (∀ r ∈ rows, e.Has r) ∧ rows.length ≤ 9223372036854775807 := by
  simp only [Ty.HasA, Ty.Has, List.cons.injEq, and_true, maxLen] at h; exact h
theorem hasA_int {k : IntKind} {x : PV} (h : (Ty.int k).HasA x) : ∃ n, x = .v (.int k n) ∧ (Lit.int k n).wf = true := by
  simp only [Ty.HasA, Ty.Has, List.cons.injEq, and_true] at h; exact h
theorem hasA_str {x : PV} (h : Ty.str.HasA x) : ∃ s : List UInt8, x = .v (str s) ∧ s.length ≤ 9223372036854775807 := by
  simp only [Ty.HasA, Ty.Has, List.cons.injEq, and_true, maxLen] at h; exact h
theorem hasA_struct {ts : List Ty} {x : PV} (h : (Ty.struct ts).HasA x) : ∃ l, x = .agg l ∧ (Ty.struct ts).Has l := by
  simp only [Ty.HasA, Ty.Has] at h ⊢; exact h
theorem hasL_cons {t : Ty} {ts : List Ty} {l : List PV} (h : Ty.HasL (t :: ts) l) : ∃ a b, l = a ++ b ∧ t.Has a ∧ Ty.HasL ts b := by simpa only [Ty.HasL] using h
theorem hasL_nil {l : List PV} (h : Ty.HasL [] l) : l = [] := by simpa only [Ty.HasL] using h
theorem has_int {k : IntKind} {l : List PV} (h : (Ty.int k).Has l) : ∃ n, l = [.v (.int k n)] ∧ (Lit.int k n).wf = true := by simpa only [Ty.Has] using h
theorem has_str {l : List PV} (h : Ty.str.Has l) : ∃ s : List UInt8, l = [.v (str s)] ∧ s.length ≤ 9223372036854775807 := by simpa only [Ty.Has, maxLen] using h

def i64b (n : Int) : Prop := -9223372036854775808 ≤ n ∧ n ≤ 9223372036854775807
def tSample : Ty := .struct [.int .i64, .int .i64, .int .i64]
def tCMark : Ty := .struct [.int .i64, .int .i64, .int .i64, .int .i64]
def tSession : Ty := .struct [.int .i64, .int .i64, .int .i64, .int .i64]
def tMach : Ty := .struct [.str, .int .i64, .int .i64]
def tNV : Ty := .struct [.str, .int .i64]
def tGroup : Ty := .struct [.str, .int .i64, .int .i64]
theorem has3 {l : List PV} (h : Ty.HasL [.int .i64, .int .i64, .int .i64] l) : ∃ a b c, l = [.v (.int .i64 a), .v (.int .i64 b), .v (.int .i64 c)] ∧ i64b a ∧ i64b b ∧ i64b c := by
  obtain ⟨_, _, rfl, h1, h⟩ := hasL_cons h
  obtain ⟨_, _, rfl, h2, h⟩ := hasL_cons h
  obtain ⟨_, _, rfl, h3, h⟩ := hasL_cons h
  obtain rfl := hasL_nil h
  obtain ⟨a, rfl, w1⟩ := has_int h1
  obtain ⟨b, rfl, w2⟩ := has_int h2
  obtain ⟨c, rfl, w3⟩ := has_int h3
  exact ⟨a, b, c, rfl, wf_i64 w1, wf_i64 w2, wf_i64 w3⟩
theorem hasSample {l : List PV} (h : tSample.Has l) : ∃ x : Sample, l = encSample x ∧ (i64b x.sent ∧ i64b x.other ∧ i64b x.back) := by
  simp only [tSample, Ty.Has] at h
  obtain ⟨a, b, c, rfl, w⟩ := has3 h
  exact ⟨⟨a, b, c⟩, rfl, w⟩
theorem has4 {l : List PV} (h : Ty.HasL [.int .i64, .int .i64, .int .i64, .int .i64] l) : ∃ a b c d, l = [.v (.int .i64 a), .v (.int .i64 b), .v (.int .i64 c), .v (.int .i64 d)] ∧ i64b a ∧ i64b b ∧ i64b c ∧ i64b d := by
  obtain ⟨_, _, rfl, h1, h2⟩ := hasL_cons h
  obtain ⟨b, c, d, rfl, w⟩ := has3 h2
  obtain ⟨a, rfl, w1⟩ := has_int h1
  exact ⟨a, b, c, d, rfl, wf_i64 w1, w⟩
theorem hasSession {l : List PV} (h : tSession.Has l) : ∃ x : Session, l = encSession x ∧ (i64b x.day ∧ i64b x.turn ∧ i64b x.lift ∧ i64b x.error) := by
  simp only [tSession, Ty.Has] at h
  obtain ⟨a, b, c, d, rfl, w⟩ := has4 h
  exact ⟨⟨a, b, c, d⟩, rfl, w⟩
theorem hasCMark {l : List PV} (h : tCMark.Has l) : ∃ x : CMark, l = encCMark x ∧ (i64b x.az ∧ i64b x.al ∧ i64b x.found ∧ i64b x.height) := by
  simp only [tCMark, Ty.Has] at h
  obtain ⟨a, b, c, d, rfl, w⟩ := has4 h
  exact ⟨⟨a, b, c, d⟩, rfl, w⟩
theorem hasMach {l : List PV} (h : tMach.Has l) : ∃ x : Mach, l = encMach x ∧ (x.name.length ≤ 9223372036854775807 ∧ i64b x.offset ∧ i64b x.delay) := by
  simp only [tMach, Ty.Has] at h
  obtain ⟨_, _, rfl, h1, h⟩ := hasL_cons h
  obtain ⟨_, _, rfl, h2, h⟩ := hasL_cons h
  obtain ⟨_, _, rfl, h3, h⟩ := hasL_cons h
  obtain rfl := hasL_nil h
  obtain ⟨a, rfl, w1⟩ := has_str h1
  obtain ⟨b, rfl, w2⟩ := has_int h2
  obtain ⟨c, rfl, w3⟩ := has_int h3
  exact ⟨⟨a, b, c⟩, rfl, w1, wf_i64 w2, wf_i64 w3⟩
theorem hasGroup {l : List PV} (h : tGroup.Has l) : ∃ x : Group, l = encGroup x ∧ (x.name.length ≤ 9223372036854775807 ∧ i64b x.persons ∧ i64b x.wish) := by
  obtain ⟨x, rfl, w⟩ := hasMach (l := l) (by simpa only [tMach, tGroup] using h)
  exact ⟨⟨x.name, x.offset, x.delay⟩, rfl, w⟩
theorem hasNV {l : List PV} (h : tNV.Has l) : ∃ x : NV, l = encNV x ∧ (x.name.length ≤ 9223372036854775807 ∧ i64b x.val) := by
  simp only [tNV, Ty.Has] at h
  obtain ⟨_, _, rfl, h1, h⟩ := hasL_cons h
  obtain ⟨_, _, rfl, h2, h⟩ := hasL_cons h
  obtain rfl := hasL_nil h
  obtain ⟨a, rfl, w1⟩ := has_str h1
  obtain ⟨b, rfl, w2⟩ := has_int h2
  exact ⟨⟨a, b⟩, rfl, w1, wf_i64 w2⟩
theorem hasI {l : List PV} (h : (Ty.int .i64).Has l) : ∃ x : Int, l = encI x ∧ i64b x := by
  obtain ⟨n, rfl, w⟩ := has_int h
  exact ⟨n, rfl, wf_i64 w⟩
theorem hasS {l : List PV} (h : Ty.str.Has l) : ∃ x : List UInt8, l = encS x ∧ x.length ≤ 9223372036854775807 := by
  obtain ⟨n, rfl, w⟩ := has_str h
  exact ⟨n, rfl, w⟩
end Go.V
/- Plain laws of whole numbers: division toward the floor, angles, the biggest and the least. -/
namespace Go.V
open Go

theorem tdivE {a b : Int} (_hb : 0 < b) : a.tdiv b = if 0 ≤ a then a / b else -((-a) / b) := by
  split
  · next h => exact Int.tdiv_eq_ediv_of_nonneg h
  · next h => rw [← Int.tdiv_eq_ediv_of_nonneg (by omega : 0 ≤ -a), Int.neg_tdiv, Int.neg_neg]
theorem tmodE {a b : Int} : a.tmod b = if 0 ≤ a then a % b else -((-a) % b) := by
  split
  · next h => exact Int.tmod_eq_emod_of_nonneg h
  · next h => rw [← Int.tmod_eq_emod_of_nonneg (by omega : 0 ≤ -a), Int.neg_tmod, Int.neg_neg]
theorem tmod_lo {a b : Int} (hb : 0 < b) : -b < a.tmod b := by
  rw [tmodE]; split
  · have := Int.emod_nonneg a (by omega : b ≠ 0); omega
  · have := Int.emod_lt_of_pos (-a) hb; omega
theorem tmod_hi {a b : Int} (hb : 0 < b) : a.tmod b < b := Int.tmod_lt_of_pos a hb
theorem floor_low {a b : Int} (hb : 0 < b) (h : a.tmod b < 0) : a.tdiv b - 1 = a / b := by
  have h1 := Int.mul_tdiv_add_tmod a b
  have h2 := tmod_lo (a := a) hb
  refine ((Int.ediv_emod_unique hb (r := a.tmod b + b)).2 ⟨?_, by omega, by omega⟩).1.symm
  rw [Int.mul_sub]; omega
theorem floor_up {a b : Int} (hb : 0 < b) (h : ¬ a.tmod b < 0) : a.tdiv b = a / b := by
  have h1 := Int.mul_tdiv_add_tmod a b
  have h2 := tmod_hi (a := a) hb
  exact ((Int.ediv_emod_unique hb (r := a.tmod b)).2 ⟨by omega, by omega, h2⟩).1.symm
/-- What is rounded up. -/
theorem up_one {a b : Int} (hb : 0 < b) (ha : 0 ≤ a) : (a + b - 1).tdiv b = (a + b - 1) / b := Int.tdiv_eq_ediv_of_nonneg (by omega)
theorem half_odd {n : Int} (h : n < 0) (h2 : n.tmod 2 ≠ 0) : n.tdiv 2 - 1 = n / 2 := by rw [tdivE (by omega), if_neg (by omega)]; rw [tmodE, if_neg (by omega)] at h2; omega
theorem half_even {n : Int} (h : ¬ (n < 0 ∧ n.tmod 2 ≠ 0)) : n.tdiv 2 = n / 2 := by
  rw [tdivE (by omega)]; rw [tmodE] at h
  split
  · omega
  · next h1 => rw [if_neg h1] at h; omega
theorem norm_law (a : Int) : (a.tmod 360000 + 360000).tmod 360000 = a % 360000 := by
  rw [tmodE (a := a)]
  split
  · rw [tmodE, if_pos (by omega)]; omega
  · rw [tmodE, if_pos (by omega)]; omega
theorem norm_add {a : Int} (h : a.tmod 360000 < 0) : a.tmod 360000 + 360000 = a % 360000 := by rw [tmodE] at h ⊢; split <;> omega
theorem norm_same {a : Int} (h : ¬ a.tmod 360000 < 0) : a.tmod 360000 = a % 360000 := by
  rw [tmodE] at h ⊢
  split
  · rfl
  · next h1 => rw [if_neg h1] at h; omega
/-- The angle from one to the other, the short way. -/
def between (a b : Int) : Int := min ((b % 360000 - a % 360000) % 360000) (360000 - (b % 360000 - a % 360000) % 360000)
def absI (n : Int) : Int := if n < 0 then -n else n
def spotB (a b : Int) : Bool := decide (0 ≤ a) && decide (a ≤ 359999) && (decide (0 ≤ b) && decide (b ≤ 90000))
def okMark (x : CMark) : Bool := (spotB x.az x.al && spotB x.found x.height) && (decide (between x.az x.found ≤ 5000) && decide (absI (x.al - x.height) ≤ 5000))
theorem spot_lim {a b : Int} (h : spotB a b = true) : 0 ≤ a ∧ a ≤ 359999 ∧ 0 ≤ b ∧ b ≤ 90000 := by
  simp only [spotB, Bool.and_eq_true, decide_eq_true_eq] at h; omega
theorem between_neg (a b : Int) : min ((b % 360000 - a % 360000) % 360000) (-((b % 360000 - a % 360000) % 360000) % 360000) = between a b := by
  unfold between; omega
end Go.V
/- Plain laws of lists: the first that answers, the least, all and any up to a place. -/
namespace Go.V
open Go

theorem floor_range {a b : Int} (hb : 0 < b) (a1 : -9223372036854775808 ≤ a) (h : a.tmod b < 0) : -9223372036854775808 ≤ a.tdiv b - 1 ∧ a.tdiv b - 1 ≤ 9223372036854775807 := by
  have ha : a < 0 := by
    rw [tmodE] at h
    split at h
    · have := Int.emod_nonneg a (by omega : b ≠ 0); omega
    · omega
  have h1 : a / b < 0 := Int.ediv_neg_of_neg_of_pos ha hb
  have h2 : a ≤ a / b := by
    rw [Int.le_ediv_iff_mul_le hb]
    have := Int.mul_le_mul_of_nonpos_left (a := a) (b := b) (c := 1) (by omega) (by omega)
    omega
  rw [floor_low hb h]; omega

section
variable {α : Type} (p : α → Bool) (xs : List α)
def anyTo (k : Nat) : Bool := (xs.take k).any p
def allTo (k : Nat) : Bool := (xs.take k).all p
/-- The place of the first that answers, or -1. -/
def idxOf : Int := match xs.findIdx? p with
  | some i => i
  | none => -1
variable {p xs} {k : Nat} {x : α}
theorem anyTo_zero : anyTo p xs 0 = false := rfl
theorem allTo_zero : allTo p xs 0 = true := rfl
theorem anyTo_succ (h : xs[k]? = some x) : anyTo p xs (k + 1) = (anyTo p xs k || p x) := by unfold anyTo; rw [take_snoc h]; simp
theorem allTo_succ (h : xs[k]? = some x) : allTo p xs (k + 1) = (allTo p xs k && p x) := by unfold allTo; rw [take_snoc h]; simp
theorem anyTo_all : anyTo p xs xs.length = xs.any p := by simp [anyTo]
theorem allTo_all : allTo p xs xs.length = xs.all p := by simp [allTo]
theorem any_hit (hx : xs[k]? = some x) (h : p x = true) : xs.any p = true := List.any_eq_true.2 ⟨x, List.mem_of_getElem? hx, h⟩
theorem all_miss (hx : xs[k]? = some x) (h : p x = false) : xs.all p = false := List.all_eq_false.2 ⟨x, List.mem_of_getElem? hx, by simp [h]⟩
theorem all_at (h : xs.all p = true) (hx : xs[k]? = some x) : p x = true := List.all_eq_true.1 h x (List.mem_of_getElem? hx)
theorem idx_hit (h : anyTo p xs k = false) (hx : xs[k]? = some x) (hp : p x = true) : idxOf p xs = k := by
  have hk := lt_of_get hx
  have : xs.findIdx? p = some k := by
    rw [List.findIdx?_eq_some_iff_getElem]
    refine ⟨hk, ?_, ?_⟩
    · rw [List.getElem?_eq_getElem hk] at hx; obtain rfl := Option.some.inj hx; exact hp
    · intro j hj
      have hm : xs[j]'(by omega) ∈ xs.take k := by rw [List.mem_take_iff_getElem]; exact ⟨j, by omega, rfl⟩
      have := List.any_eq_false.1 h _ hm
      simpa using this
  simp [idxOf, this]
theorem idx_miss (h : anyTo p xs xs.length = false) : idxOf p xs = -1 := by
  rw [anyTo_all] at h
  have : xs.findIdx? p = none := by rw [List.findIdx?_eq_none_iff]; intro x hx; simpa using List.any_eq_false.1 h x hx
  simp [idxOf, this]
theorem idx_any : decide (idxOf p xs ≥ 0) = xs.any p := by
  unfold idxOf
  cases h : xs.findIdx? p with
  | none =>
    rw [List.findIdx?_eq_none_iff] at h
    have : xs.any p = false := by rw [List.any_eq_false]; intro x hx; simp [h x hx]
    simp [this]
  | some i =>
    rw [List.findIdx?_eq_some_iff_getElem] at h
    obtain ⟨h1, h2, _⟩ := h
    have : xs.any p = true := any_hit (List.getElem?_eq_getElem h1) h2
    rw [this]; simp
end

/-- The place of the best one among the first k, the first of equals. -/
def bestTo {α : Type} (lt : α → α → Bool) (xs : List α) : Nat → Nat
  | 0 => 0
  | k + 1 => match xs[k]?, xs[bestTo lt xs k]? with
    | some x, some y => if lt x y = true then k else bestTo lt xs k
    | _, _ => bestTo lt xs k
section
variable {α : Type} {lt : α → α → Bool} {xs : List α} {k : Nat} {x y : α}
theorem bestTo_T (hx : xs[k]? = some x) (hy : xs[bestTo lt xs k]? = some y) (h : lt x y = true) : bestTo lt xs (k + 1) = k := by simp [bestTo, hx, hy, h]
theorem bestTo_F (hx : xs[k]? = some x) (hy : xs[bestTo lt xs k]? = some y) (h : lt x y = false) : bestTo lt xs (k + 1) = bestTo lt xs k := by simp [bestTo, hx, hy, h]
theorem bestTo_lt (k : Nat) : bestTo lt xs k < k ∨ (k = 0 ∧ bestTo lt xs k = 0) := by
  induction k with
  | zero => exact .inr ⟨rfl, rfl⟩
  | succ k ih =>
    left
    simp only [bestTo]
    split
    · split <;> omega
    · omega
theorem bestTo_le {n : Nat} (h : k ≤ n) (hn : 0 < n) : bestTo lt xs k < n := by
  rcases bestTo_lt (lt := lt) (xs := xs) k with h1 | ⟨rfl, h1⟩ <;> omega
theorem bestTo_one (h : ∀ x, lt x x = false) : bestTo lt xs 1 = 0 := by
  simp only [bestTo]
  split
  · next x y h1 h2 => rw [h1] at h2; obtain rfl := Option.some.inj h2; simp [h]
  · rfl
end

/-! What the functions on messages' times answer. -/
/-- A message's times. -/
def sampleB (s o b : Int) : Bool := (decide (0 ≤ b) && decide (b ≤ 1000000000)) && (decide (0 ≤ s) && decide (s ≤ b)) && (decide (0 ≤ o) && decide (o ≤ 1000000000))
def okSample (x : Sample) : Bool := sampleB x.sent x.other x.back
def okSession (x : Session) : Bool := (decide (0 ≤ x.day) && decide (x.day ≤ 100000)) && (decide (-5000 ≤ x.turn) && decide (x.turn ≤ 5000)) && (decide (-5000 ≤ x.lift) && decide (x.lift ≤ 5000)) && (decide (0 ≤ x.error) && decide (x.error ≤ 180000))
def geDay (y x : Session) : Bool := decide (y.day ≥ x.day)
def okSessions (xs : List Session) : Bool := okB okSession geDay xs && (decide (1 ≤ xs.length) && decide (xs.length ≤ 32))
def okMachine (x : Mach) : Bool := isName x.name && (decide (-1000000000 ≤ x.offset) && decide (x.offset ≤ 1000000000)) && (decide (0 ≤ x.delay) && decide (x.delay ≤ 1000000000))
def geMachine (y x : Mach) : Bool := !Op.bytesLess y.name x.name
def okMachines (xs : List Mach) : Bool := okB okMachine geMachine xs && decide (xs.length ≤ 8)
def geNV (y x : NV) : Bool := !Op.bytesLess y.name x.name
def okMedia (x : NV) : Bool := isName x.name && (decide (1 ≤ x.val) && decide (x.val ≤ 100000))
def okMedias (xs : List NV) : Bool := okB okMedia geNV xs && decide (xs.length ≤ 16)
def okSetting (x : NV) : Bool := isName x.name && (decide (0 ≤ x.val) && decide (x.val ≤ 1000))
def okState (xs : List NV) : Bool := okB okSetting geNV xs && decide (xs.length ≤ 24)
theorem sample_lim {x : Sample} (h : okSample x = true) : 0 ≤ x.back ∧ x.back ≤ 1000000000 ∧ 0 ≤ x.sent ∧ x.sent ≤ x.back ∧ 0 ≤ x.other ∧ x.other ≤ 1000000000 := by
  simp only [okSample, sampleB, Bool.and_eq_true, decide_eq_true_eq] at h; omega
def offsetOf (x : Sample) : Int × Int × Int := if okSample x = true then ((2 * x.other - x.sent - x.back) / 2, x.back - x.sent, 0) else (0, 0, 1)
def ltSample (x y : Sample) : Bool := decide (x.back - x.sent < y.back - y.sent)
def bestSample (xs : List Sample) : Int × Int := if xs.all okSample = true then (if decide (1 ≤ xs.length) && decide (xs.length ≤ 24) then (bestTo ltSample xs xs.length, 0) else (0, 2)) else (0, 1)
theorem all_not {α : Type} {p : α → Bool} {xs : List α} : xs.any (fun x => !p x) = !xs.all p := by
  induction xs with
  | nil => rfl
  | cons a l ih => simp only [List.any_cons, List.all_cons, ih, Bool.not_and]

theorem viewL_p {st : St} : ∀ l : List PV, st.viewL (l.map .p) = some l
  | [] => rfl
  | x :: l => by simp [St.viewL, St.view, St.view1, viewL_p l]
end Go.V
namespace Go.V
open Go
section
variable {α : Type} {one : α → Bool} {ge : α → α → Bool} {xs : List α} {k : Nat} {x y : α}
theorem okB_at (h : okB one ge xs = true) (hx : xs[k]? = some x) : one x = true := by
  have := okTo_mono (j := k + 1) (lt_of_get hx) h
  simp only [okTo, hx, Bool.and_eq_true] at this
  exact this.2.1
theorem okB_next (h : okB one ge xs = true) (hx : xs[k]? = some x) (hk : 0 < k) (hy : xs[k - 1]? = some y) : ge y x = false := by
  have := okTo_mono (j := k + 1) (lt_of_get hx) h
  cases k with
  | zero => omega
  | succ j => simp at hy; simp [okTo, hx, hy] at this; exact this.2.2
end
def ownTime (m : Mach) (n : Int) : Int × Int := if okMachine m = true then (if decide (0 ≤ n) && decide (n ≤ 1000000000) then (n + m.offset, 0) else (0, 2)) else (0, 1)
theorem mach_lim {m : Mach} (h : okMachine m = true) : isName m.name = true ∧ -1000000000 ≤ m.offset ∧ m.offset ≤ 1000000000 ∧ 0 ≤ m.delay ∧ m.delay ≤ 1000000000 := by
  simp only [okMachine, Bool.and_eq_true, decide_eq_true_eq] at h; exact ⟨h.1.1, h.1.2.1, h.1.2.2, h.2.1, h.2.2⟩
theorem session_lim {x : Session} (h : okSession x = true) : 0 ≤ x.day ∧ x.day ≤ 100000 ∧ -5000 ≤ x.turn ∧ x.turn ≤ 5000 ∧ -5000 ≤ x.lift ∧ x.lift ≤ 5000 ∧ 0 ≤ x.error ∧ x.error ≤ 180000 := by
  simp only [okSession, Bool.and_eq_true, decide_eq_true_eq] at h; omega
/-- The greatest drift of a day among the first k sessions. -/
def driftOf (y x : Session) : Int := (max (absI (x.turn - y.turn)) (absI (x.lift - y.lift)) + (x.day - y.day) - 1) / (x.day - y.day)
def driftTo (xs : List Session) : Nat → Int
  | 0 => 0
  | k + 1 => if k = 0 then 0 else match xs[k - 1]?, xs[k]? with
    | some y, some x => max (driftTo xs k) (driftOf y x)
    | _, _ => driftTo xs k
theorem driftTo_one (xs : List Session) : driftTo xs 1 = 0 := by simp [driftTo]
theorem driftTo_succ {xs : List Session} {k : Nat} {x y : Session} (hk : 0 < k) (hx : xs[k]? = some x) (hy : xs[k - 1]? = some y) : driftTo xs (k + 1) = max (driftTo xs k) (driftOf y x) := by
  simp only [driftTo, hx, hy]; rw [if_neg (by omega)]
def driftPerDay (xs : List Session) : Int × Int := if okSessions xs = true then (if xs.length = 1 then (0, 6) else (driftTo xs xs.length, 0)) else (0, 1)
end Go.V
/- More plain laws. -/
namespace Go.V
open Go
theorem absI_lim (n : Int) : (0 ≤ absI n) ∧ (n ≤ absI n) ∧ (-n ≤ absI n) ∧ (absI n = n ∨ absI n = -n) := by unfold absI; split <;> omega
end Go.V
/- What the program's functions on files, due days and leads answer. -/
namespace Go.V
open Go

/-- The number that stands behind a name; 0 if there is none. -/
def lookup (xs : List NV) (n : List UInt8) : Int := ((xs.find? fun x => decide (x.name = n)).map NV.val).getD 0
theorem lookup_hit {xs : List NV} {n : List UInt8} {k : Nat} {x : NV} (h : anyTo (fun x : NV => decide (x.name = n)) xs k = false) (hx : xs[k]? = some x) (hn : x.name = n) : lookup xs n = x.val := by
  have : xs.find? (fun x => decide (x.name = n)) = some x := by
    rw [List.find?_eq_some_iff_getElem]
    have hk := lt_of_get hx
    refine ⟨by simpa using hn, k, hk, by rw [List.getElem?_eq_getElem hk] at hx; exact Option.some.inj hx, ?_⟩
    intro j hj
    have hm : xs[j]'(by omega) ∈ xs.take k := by rw [List.mem_take_iff_getElem]; exact ⟨j, by omega, rfl⟩
    have := List.any_eq_false.1 h _ hm
    simpa using this
  simp [lookup, this]
theorem lookup_miss {xs : List NV} {n : List UInt8} (h : anyTo (fun x : NV => decide (x.name = n)) xs xs.length = false) : lookup xs n = 0 := by
  rw [anyTo_all] at h
  have : xs.find? (fun x => decide (x.name = n)) = none := by
    rw [List.find?_eq_none]; intro x hx; simpa using List.any_eq_false.1 h x hx
  simp [lookup, this]
theorem lookup_lim {xs : List NV} (h : okMedias xs = true) (n : List UInt8) : 0 ≤ lookup xs n ∧ lookup xs n ≤ 100000 := by
  unfold lookup
  cases hf : xs.find? (fun x => decide (x.name = n)) with
  | none => simp
  | some x =>
    obtain ⟨k, hk⟩ := List.getElem?_of_mem (List.mem_of_find?_eq_some hf)
    have h1 : okB okMedia geNV xs = true := by unfold okMedias at h; grind
    have h2 := okB_at h1 hk
    simp only [okMedia, Bool.and_eq_true, decide_eq_true_eq] at h2
    simp; omega
def loadTime (xs : List NV) (n : List UInt8) (b : Int) : Int × Int :=
  if okMedias xs = true then (if decide (1 ≤ b) && decide (b ≤ 100000) then (if lookup xs n = 0 then (0, 3) else ((1000 * lookup xs n + b - 1) / b, 0)) else (0, 2)) else (0, 1)

theorem tdiv_small {a b : Int} (ha : 0 ≤ a) (hb : 0 < b) : 0 ≤ a.tdiv b ∧ a.tdiv b ≤ a := by
  rw [Int.tdiv_eq_ediv_of_nonneg ha]
  exact ⟨Int.ediv_nonneg ha (by omega), Int.ediv_le_self b ha⟩
theorem driftTo_nonneg (xs : List Session) (k : Nat) : 0 ≤ driftTo xs k := by
  induction k with
  | zero => simp [driftTo]
  | succ k ih =>
    simp only [driftTo]
    split
    · omega
    · split <;> omega
def lastS (xs : List Session) : Session := (xs[xs.length - 1]?).getD default
theorem lastS_eq {xs : List Session} {x : Session} (h : xs[xs.length - 1]? = some x) : lastS xs = x := by simp [lastS, h]
def dueDay (xs : List Session) (l : Int) : Int × Int :=
  if okSessions xs = true then (if decide (0 ≤ l) && decide (l ≤ 180000) then (if (lastS xs).error > l then ((lastS xs).day, 0) else if driftTo xs xs.length = 0 then (0, 3)
    else if (lastS xs).day + (l - (lastS xs).error).tdiv (driftTo xs xs.length) + 1 > 100000 then (0, 3) else ((lastS xs).day + (l - (lastS xs).error).tdiv (driftTo xs xs.length) + 1, 0)) else (0, 2)) else (0, 1)
theorem sessions_len {xs : List Session} (h : okSessions xs = true) : 1 ≤ xs.length ∧ xs.length ≤ 32 := by unfold okSessions at h; grind
theorem sessions_at {xs : List Session} {k : Nat} {x : Session} (h : okSessions xs = true) (hx : xs[k]? = some x) : okSession x = true := by
  have : okB okSession geDay xs = true := by unfold okSessions at h; grind
  exact okB_at this hx

/-- The greatest among the first k, and 0. -/
def maxTo {α : Type} (f : α → Int) (xs : List α) : Nat → Int
  | 0 => 0
  | k + 1 => match xs[k]? with
    | some x => max (maxTo f xs k) (f x)
    | none => maxTo f xs k
theorem maxTo_succ {α : Type} {f : α → Int} {xs : List α} {k : Nat} {x : α} (h : xs[k]? = some x) : maxTo f xs (k + 1) = max (maxTo f xs k) (f x) := by simp [maxTo, h]
theorem maxTo_nonneg {α : Type} (f : α → Int) (xs : List α) (k : Nat) : 0 ≤ maxTo f xs k := by
  induction k with
  | zero => simp [maxTo]
  | succ k ih => simp only [maxTo]; split <;> omega
theorem maxTo_le {α : Type} {f : α → Int} {xs : List α} {b : Int} (hb : 0 ≤ b) (h : ∀ (k : Nat) x, xs[k]? = some x → f x ≤ b) (k : Nat) : maxTo f xs k ≤ b := by
  induction k with
  | zero => simpa [maxTo] using hb
  | succ k ih =>
    simp only [maxTo]
    split
    · next x hx => have := h _ _ hx; omega
    · exact ih
def askMachines (xs : List Mach) : Int := if okMachines xs = true then (if xs.length = 0 then 3 else 0) else 1
theorem ask_ok {xs : List Mach} (h : askMachines xs = 0) : okMachines xs = true ∧ xs.length ≠ 0 := by
  unfold askMachines at h; split at h
  · split at h
    · omega
    · exact ⟨by assumption, by assumption⟩
  · omega
theorem machines_at {xs : List Mach} {k : Nat} {x : Mach} (h : okMachines xs = true) (hx : xs[k]? = some x) : okMachine x = true := by
  have : okB okMachine geMachine xs = true := by unfold okMachines at h; grind
  exact okB_at this hx
theorem machines_len {xs : List Mach} (h : okMachines xs = true) : xs.length ≤ 8 := by unfold okMachines at h; grind
theorem delay_lim {xs : List Mach} (h : okMachines xs = true) (k : Nat) : 0 ≤ maxTo Mach.delay xs k ∧ maxTo Mach.delay xs k ≤ 1000000000 :=
  ⟨maxTo_nonneg _ _ _, maxTo_le (by omega) (fun _ _ hx => (mach_lim (machines_at h hx)).2.2.2.2) _⟩
def leadFor (xs : List Mach) (m : Int) : Int × Int :=
  if askMachines xs = 0 then (if decide (0 ≤ m) && decide (m ≤ 1000000000) then ((maxTo Mach.delay xs xs.length + 1) / 2 + m, 0) else (0, 2)) else (0, askMachines xs)
theorem half_up {a : Int} (h : 0 ≤ a) : (a + 1).tdiv 2 = (a + 1) / 2 := Int.tdiv_eq_ediv_of_nonneg (by omega)
end Go.V
/- What the program's functions on machines' ways, files' sums and marks' fits answer. -/
namespace Go.V
open Go

def sampleAt (xs : List Sample) (i : Int) : Sample := (xs[i.toNat]?).getD default
def machineOf (n : List UInt8) (xs : List Sample) : Mach × Int :=
  if isName n = true then (if (bestSample xs).2 = 0 then (⟨n, (offsetOf (sampleAt xs (bestSample xs).1)).1, (offsetOf (sampleAt xs (bestSample xs).1)).2.1⟩, 0) else (⟨[], 0, 0⟩, (bestSample xs).2)) else (⟨[], 0, 0⟩, 1)
theorem best_ok {xs : List Sample} (h : (bestSample xs).2 = 0) : ∃ (k : Nat) (x : Sample), xs[k]? = some x ∧ (bestSample xs).1 = (k : Int) ∧ sampleAt xs (bestSample xs).1 = x := by
  unfold bestSample at h ⊢
  split
  · split
    · next h1 h2 =>
      have hl : 1 ≤ xs.length := by simp at h2; omega
      have hb : bestTo ltSample xs xs.length < xs.length := bestTo_le (Nat.le_refl _) (by omega)
      obtain ⟨x, hx⟩ := get_some hb
      exact ⟨_, x, hx, rfl, by simp [sampleAt, hx]⟩
    · next h1 h2 => rw [if_pos h1, if_neg h2] at h; simp at h
  · next h1 => rw [if_neg h1] at h; simp at h

/-- Sums. -/
def sumTo {α : Type} (f : α → Int) (xs : List α) : Nat → Int
  | 0 => 0
  | k + 1 => match xs[k]? with
    | some x => sumTo f xs k + f x
    | none => sumTo f xs k
theorem sumTo_succ {α : Type} {f : α → Int} {xs : List α} {k : Nat} {x : α} (h : xs[k]? = some x) : sumTo f xs (k + 1) = sumTo f xs k + f x := by simp [sumTo, h]
theorem sumTo_lim {α : Type} {f : α → Int} {xs : List α} {lo hi : Int} (hlo : lo ≤ 0) (hhi : 0 ≤ hi) (h : ∀ (k : Nat) x, xs[k]? = some x → lo ≤ f x ∧ f x ≤ hi) (k : Nat) : lo * k ≤ sumTo f xs k ∧ sumTo f xs k ≤ hi * k := by
  induction k with
  | zero => simp [sumTo]
  | succ k ih =>
    have e1 : lo * ((k + 1 : Nat) : Int) = lo * k + lo := by rw [Int.natCast_add, Int.mul_add]; simp
    have e2 : hi * ((k + 1 : Nat) : Int) = hi * k + hi := by rw [Int.natCast_add, Int.mul_add]; simp
    rw [e1, e2]
    simp only [sumTo]
    split
    · next x hx => have := h _ _ hx; omega
    · omega
def totalSize (xs : List NV) (ns : List (List UInt8)) : Int × Int :=
  if okMedias xs = true then (if ns.all (fun n => !decide (lookup xs n = 0)) = true then (if ns.length > 40 then (0, 5) else (sumTo (lookup xs) ns ns.length, 0)) else (0, 3)) else (0, 1)
def askUses (xs : List NV) (ns : List (List UInt8)) : Int :=
  if okMedias xs = true then (if ns.all (fun n => !decide (lookup xs n = 0)) = true then (if ns.length > 40 then 5 else 0) else 3) else 1

def signed (a b : Int) : Int := if (b % 360000 - a % 360000) % 360000 > 180000 then (b % 360000 - a % 360000) % 360000 - 360000 else (b % 360000 - a % 360000) % 360000
theorem signed_lim (a b : Int) : -180000 ≤ signed a b ∧ signed a b ≤ 180000 := by unfold signed; split <;> omega
def divR (a b : Int) : Int := if a < 0 then -((b - 2 * a) / (2 * b)) else (2 * a + b) / (2 * b)
theorem divR_low {a b : Int} (hb : 0 < b) (h : absI (a.tmod b) < b - absI (a.tmod b)) : a.tdiv b = divR a b := by
  have h1 := Int.mul_tdiv_add_tmod a b
  unfold divR
  by_cases ha : a < 0
  · rw [if_pos ha]
    have h2 : a.tmod b ≤ 0 := by rw [tmodE, if_neg (by omega)]; have := Int.emod_nonneg (-a) (by omega : b ≠ 0); omega
    have h3 := tmod_lo (a := a) hb
    have ea : absI (a.tmod b) = -(a.tmod b) := by unfold absI; split <;> omega
    rw [ea] at h
    have e : b - 2 * a = (b - 2 * (a.tmod b)) + (2 * b) * (-(a.tdiv b)) := by
      have e2 : (2 * b) * (-(a.tdiv b)) = -(2 * (b * a.tdiv b)) := by rw [Int.mul_neg, Int.mul_assoc]
      rw [e2]; omega
    have := (Int.ediv_emod_unique (a := b - 2 * a) (b := 2 * b) (q := -(a.tdiv b)) (r := b - 2 * (a.tmod b)) (by omega)).2 ⟨by rw [e], by omega, by omega⟩
    rw [this.1]; omega
  · rw [if_neg ha]
    have h2 : 0 ≤ a.tmod b := by rw [tmodE, if_pos (by omega)]; exact Int.emod_nonneg a (by omega : b ≠ 0)
    have ea : absI (a.tmod b) = a.tmod b := by unfold absI; split <;> omega
    rw [ea] at h
    have e : 2 * a + b = (2 * (a.tmod b) + b) + (2 * b) * (a.tdiv b) := by
      have e2 : (2 * b) * (a.tdiv b) = 2 * (b * a.tdiv b) := by rw [Int.mul_assoc]
      rw [e2]; omega
    exact ((Int.ediv_emod_unique (a := 2 * a + b) (b := 2 * b) (q := a.tdiv b) (r := 2 * (a.tmod b) + b) (by omega)).2 ⟨by rw [e], by omega, by omega⟩).1.symm
theorem divR_up {a b : Int} (hb : 0 < b) (ha : ¬ a < 0) (h : ¬ absI (a.tmod b) < b - absI (a.tmod b)) : a.tdiv b + 1 = divR a b := by
  have h1 := Int.mul_tdiv_add_tmod a b
  unfold divR
  rw [if_neg ha]
  have h2 : 0 ≤ a.tmod b := by rw [tmodE, if_pos (by omega)]; exact Int.emod_nonneg a (by omega : b ≠ 0)
  have h3 := tmod_hi (a := a) hb
  have ea : absI (a.tmod b) = a.tmod b := by unfold absI; split <;> omega
  rw [ea] at h
  have e : 2 * a + b = (2 * (a.tmod b) - b) + (2 * b) * (a.tdiv b + 1) := by
    have e2 : (2 * b) * (a.tdiv b + 1) = 2 * (b * a.tdiv b) + 2 * b := by rw [Int.mul_add, Int.mul_assoc, Int.mul_one]
    rw [e2]; omega
  exact ((Int.ediv_emod_unique (a := 2 * a + b) (b := 2 * b) (q := a.tdiv b + 1) (r := 2 * (a.tmod b) - b) (by omega)).2 ⟨by rw [e], by omega, by omega⟩).1.symm
theorem divR_down {a b : Int} (hb : 0 < b) (ha : a < 0) (h : ¬ absI (a.tmod b) < b - absI (a.tmod b)) : a.tdiv b - 1 = divR a b := by
  have h1 := Int.mul_tdiv_add_tmod a b
  unfold divR
  rw [if_pos ha]
  have h2 : a.tmod b ≤ 0 := by rw [tmodE, if_neg (by omega)]; have := Int.emod_nonneg (-a) (by omega : b ≠ 0); omega
  have h3 := tmod_lo (a := a) hb
  have ea : absI (a.tmod b) = -(a.tmod b) := by unfold absI; split <;> omega
  rw [ea] at h
  have e : b - 2 * a = (-b - 2 * (a.tmod b)) + (2 * b) * (-(a.tdiv b) + 1) := by
    have e2 : (2 * b) * (-(a.tdiv b) + 1) = -(2 * (b * a.tdiv b)) + 2 * b := by rw [Int.mul_add, Int.mul_neg, Int.mul_assoc, Int.mul_one]
    rw [e2]; omega
  have := (Int.ediv_emod_unique (a := b - 2 * a) (b := 2 * b) (q := -(a.tdiv b) + 1) (r := -b - 2 * (a.tmod b)) (by omega)).2 ⟨by rw [e], by omega, by omega⟩
  rw [this.1]; omega
def askMarks (xs : List CMark) : Int := if xs.all okMark = true then (if decide (1 ≤ xs.length) && decide (xs.length ≤ 24) then 0 else 2) else 1
theorem askMarks_ok {xs : List CMark} (h : askMarks xs = 0) : xs.all okMark = true ∧ 1 ≤ xs.length ∧ xs.length ≤ 24 := by
  unfold askMarks at h
  split at h
  · next h1 =>
    split at h
    · next h2 => simp at h2; exact ⟨h1, h2.1, h2.2⟩
    · omega
  · omega
theorem mark_lim {x : CMark} (h : okMark x = true) : 0 ≤ x.az ∧ x.az ≤ 359999 ∧ 0 ≤ x.al ∧ x.al ≤ 90000 ∧ 0 ≤ x.found ∧ x.found ≤ 359999 ∧ 0 ≤ x.height ∧ x.height ≤ 90000 := by
  simp only [okMark, spotB, Bool.and_eq_true, decide_eq_true_eq] at h; omega
def turnOf (x : CMark) : Int := signed x.found x.az
def liftOf (x : CMark) : Int := x.al - x.height
def fitMarks (xs : List CMark) : Int × Int × Int :=
  if askMarks xs = 0 then (divR (sumTo turnOf xs xs.length) xs.length, divR (sumTo liftOf xs xs.length) xs.length, 0) else (0, 0, askMarks xs)
theorem turn_lim (xs : List CMark) (k : Nat) : -180000 * (k : Int) ≤ sumTo turnOf xs k ∧ sumTo turnOf xs k ≤ 180000 * k := sumTo_lim (by omega) (by omega) (fun _ x _ => signed_lim _ _) k
theorem lift_lim {xs : List CMark} (h : xs.all okMark = true) (k : Nat) : -90000 * (k : Int) ≤ sumTo liftOf xs k ∧ sumTo liftOf xs k ≤ 90000 * k :=
  sumTo_lim (by omega) (by omega) (fun _ x hx => by have := mark_lim (all_at h hx); unfold liftOf; omega) k
end Go.V
namespace Go.V
open Go
theorem tdiv_abs {a b : Int} (hb : 0 < b) : absI (a.tdiv b) ≤ absI a := by
  by_cases h : 0 ≤ a
  · have := tdiv_small h hb; unfold absI; split <;> split <;> omega
  · have h2 := tdiv_small (a := -a) (by omega) hb
    rw [Int.neg_tdiv] at h2
    unfold absI; split <;> split <;> omega
theorem askUses_ok {xs : List NV} {ns : List (List UInt8)} (h : askUses xs ns = 0) : okMedias xs = true ∧ ns.all (fun n => !decide (lookup xs n = 0)) = true ∧ ns.length ≤ 40 := by
  unfold askUses at h
  split at h
  · split at h
    · split at h
      · omega
      · exact ⟨by assumption, by assumption, by omega⟩
    · omega
  · omega
theorem lookups_lim {xs : List NV} {ns : List (List UInt8)} (h : okMedias xs = true) (k : Nat) : 0 * (k : Int) ≤ sumTo (lookup xs) ns k ∧ sumTo (lookup xs) ns k ≤ 100000 * k :=
  sumTo_lim (by omega) (by omega) (fun _ n _ => lookup_lim h n) k
theorem total_eq (xs : List NV) (ns : List (List UInt8)) : totalSize xs ns = if askUses xs ns = 0 then (sumTo (lookup xs) ns ns.length, 0) else (0, askUses xs ns) := by
  unfold totalSize askUses; split <;> (try split) <;> (try split) <;> first | rfl | (simp_all; done) | omega
theorem total_bad {xs : List NV} {ns : List (List UInt8)} (h : ¬ askUses xs ns = 0) : PV.tup [.v (.int .i64 0), .v (.int .i64 (askUses xs ns))] = .tup [.v (.int .i64 (totalSize xs ns).1), .v (.int .i64 (totalSize xs ns).2)] := by
  rw [total_eq, if_neg h]
theorem total_ok {xs : List NV} {ns : List (List UInt8)} (h1 : okMedias xs = true) (h2 : ns.all (fun n => !decide (lookup xs n = 0)) = true) (h3 : ns.length ≤ 40) :
    PV.tup [.v (.int .i64 (sumTo (lookup xs) ns ns.length)), .v (.int .i64 0)] = .tup [.v (.int .i64 (totalSize xs ns).1), .v (.int .i64 (totalSize xs ns).2)] := by
  have : askUses xs ns = 0 := by unfold askUses; rw [if_pos h1, if_pos h2, if_neg (by omega)]
  rw [total_eq, if_pos this]
end Go.V
/- The agreed offset: the beginning that lies in the most ranges, the least of them, and where their common part ends. -/
namespace Go.V
open Go

def beginOf (m : Mach) : Int := m.offset - m.delay
def endOf (m : Mach) : Int := m.offset + m.delay
def liesB (m : Mach) (b : Int) : Bool := decide (beginOf m ≤ b) && decide (b ≤ endOf m)
/-- How many of the first k ranges the place lies in. -/
def countTo (xs : List Mach) (b : Int) : Nat → Int
  | 0 => 0
  | k + 1 => match xs[k]? with
    | some x => if liesB x b = true then countTo xs b k + 1 else countTo xs b k
    | none => countTo xs b k
/-- The first end of those among the first k that the place lies in. -/
def endTo (xs : List Mach) (b e : Int) : Nat → Int
  | 0 => e
  | k + 1 => match xs[k]? with
    | some x => if liesB x b = true then min (endTo xs b e k) (endOf x) else endTo xs b e k
    | none => endTo xs b e k
section
variable {xs : List Mach} {b e : Int} {k : Nat} {x : Mach}
theorem countTo_T (hx : xs[k]? = some x) (h : liesB x b = true) : countTo xs b (k + 1) = countTo xs b k + 1 := by simp [countTo, hx, h]
theorem countTo_F (hx : xs[k]? = some x) (h : liesB x b = false) : countTo xs b (k + 1) = countTo xs b k := by simp [countTo, hx, h]
theorem endTo_T (hx : xs[k]? = some x) (h : liesB x b = true) : endTo xs b e (k + 1) = min (endTo xs b e k) (endOf x) := by simp [endTo, hx, h]
theorem endTo_F (hx : xs[k]? = some x) (h : liesB x b = false) : endTo xs b e (k + 1) = endTo xs b e k := by simp [endTo, hx, h]
theorem countTo_lim (k : Nat) : 0 ≤ countTo xs b k ∧ countTo xs b k ≤ k := by
  induction k with
  | zero => simp [countTo]
  | succ k ih => simp only [countTo]; split <;> (try split) <;> omega
theorem countTo_pos (hx : xs[k]? = some x) (h : liesB x b = true) : ∀ n, k < n → 1 ≤ countTo xs b n := by
  intro n hn
  induction n with
  | zero => omega
  | succ n ih =>
    by_cases e : n = k
    · subst e; rw [countTo_T hx h]; have := countTo_lim (xs := xs) (b := b) n; omega
    · have := ih (by omega)
      simp only [countTo]; split <;> (try split) <;> omega
theorem endTo_min (k : Nat) (e' : Int) : endTo xs b (min e e') k = min (endTo xs b e k) e' := by
  induction k with
  | zero => rfl
  | succ k ih => simp only [endTo]; split <;> (try split) <;> omega
theorem endTo_in (hx : xs[k]? = some x) (h : liesB x b = true) : ∀ n, k < n → endTo xs b e n ≤ endOf x := by
  intro n hn
  induction n with
  | zero => omega
  | succ n ih =>
    by_cases e1 : n = k
    · subst e1; rw [endTo_T hx h]; omega
    · have := ih (by omega)
      simp only [endTo]; split <;> (try split) <;> omega
theorem endTo_own (hx : xs[k]? = some x) (h : liesB x b = true) (hk : k < xs.length) (he : endOf x ≤ e) : endTo xs b (endOf x) xs.length = endTo xs b e xs.length := by
  have h1 := endTo_min (xs := xs) (b := b) (e := e) xs.length (endOf x)
  rw [Int.min_eq_right he] at h1
  rw [h1]
  have := endTo_in (e := e) hx h xs.length hk
  omega
theorem endTo_lim (h : ∀ (k : Nat) x, xs[k]? = some x → -2000000000 ≤ endOf x ∧ endOf x ≤ 2000000000) (he : -2000000000 ≤ e ∧ e ≤ 3000000000) (k : Nat) : -2000000000 ≤ endTo xs b e k ∧ endTo xs b e k ≤ 3000000000 := by
  induction k with
  | zero => simpa [endTo] using he
  | succ k ih =>
    simp only [endTo]
    split
    · next x hx => have := h _ _ hx; split <;> omega
    · exact ih
end
/-- The best beginning among the first k, and in how many it lies. -/
def bestB (xs : List Mach) : Nat → Int × Int
  | 0 => (0, 0)
  | k + 1 => match xs[k]? with
    | some x => if countTo xs (beginOf x) xs.length > (bestB xs k).2 ∨ (countTo xs (beginOf x) xs.length = (bestB xs k).2 ∧ beginOf x < (bestB xs k).1) then (beginOf x, countTo xs (beginOf x) xs.length) else bestB xs k
    | none => bestB xs k
section
variable {xs : List Mach} {k : Nat} {x : Mach}
theorem bestB_T (hx : xs[k]? = some x) (h : countTo xs (beginOf x) xs.length > (bestB xs k).2 ∨ (countTo xs (beginOf x) xs.length = (bestB xs k).2 ∧ beginOf x < (bestB xs k).1)) :
    bestB xs (k + 1) = (beginOf x, countTo xs (beginOf x) xs.length) := by simp only [bestB, hx]; rw [if_pos h]
theorem bestB_F (hx : xs[k]? = some x) (h : ¬ (countTo xs (beginOf x) xs.length > (bestB xs k).2 ∨ (countTo xs (beginOf x) xs.length = (bestB xs k).2 ∧ beginOf x < (bestB xs k).1))) :
    bestB xs (k + 1) = bestB xs k := by simp only [bestB, hx]; rw [if_neg h]
/-- Where the common part of the best beginning ends. -/
def untilB (xs : List Mach) (k : Nat) : Int := if k = 0 then 0 else endTo xs (bestB xs k).1 3000000000 xs.length
theorem lies_own (h : okMachine x = true) : liesB x (beginOf x) = true := by
  have := mach_lim h
  unfold liesB beginOf endOf
  rw [Bool.and_eq_true, decide_eq_true_eq, decide_eq_true_eq]
  constructor <;> omega
theorem first_best (hx : xs[0]? = some x) (h : okMachine x = true) : countTo xs (beginOf x) xs.length > (bestB xs 0).2 := by
  have := countTo_pos hx (lies_own h) xs.length (lt_of_get hx)
  simp [bestB]; omega
theorem ends_lim (h : okMachines xs = true) : ∀ (k : Nat) x, xs[k]? = some x → -2000000000 ≤ endOf x ∧ endOf x ≤ 2000000000 := fun k x hx => by
  have := mach_lim (machines_at h hx); unfold endOf; omega
theorem begins_lim (h : okMachine x = true) : -2000000000 ≤ beginOf x ∧ beginOf x ≤ 2000000000 ∧ -2000000000 ≤ endOf x ∧ endOf x ≤ 2000000000 := by
  have := mach_lim h; unfold beginOf endOf; omega
theorem bestB_lim (h : okMachines xs = true) (k : Nat) : -2000000000 ≤ (bestB xs k).1 ∧ (bestB xs k).1 ≤ 2000000000 ∧ 0 ≤ (bestB xs k).2 ∧ (bestB xs k).2 ≤ xs.length := by
  induction k with
  | zero => simp [bestB]
  | succ k ih =>
    simp only [bestB]
    split
    · next x hx =>
      have h1 := begins_lim (machines_at h hx)
      have h2 := countTo_lim (xs := xs) (b := beginOf x) xs.length
      split
      · simp only; omega
      · exact ih
    · exact ih
theorem untilB_T (hok : okMachines xs = true) (hx : xs[k]? = some x) (h : countTo xs (beginOf x) xs.length > (bestB xs k).2 ∨ (countTo xs (beginOf x) xs.length = (bestB xs k).2 ∧ beginOf x < (bestB xs k).1)) :
    untilB xs (k + 1) = endTo xs (beginOf x) (endOf x) xs.length := by
  unfold untilB
  rw [if_neg (by omega), bestB_T hx h, endTo_own hx (lies_own (machines_at hok hx)) (lt_of_get hx) (e := 3000000000) (by have := begins_lim (machines_at hok hx); omega)]
theorem untilB_F (hok : okMachines xs = true) (hx : xs[k]? = some x) (h : ¬ (countTo xs (beginOf x) xs.length > (bestB xs k).2 ∨ (countTo xs (beginOf x) xs.length = (bestB xs k).2 ∧ beginOf x < (bestB xs k).1))) :
    untilB xs (k + 1) = untilB xs k := by
  have hk : k ≠ 0 := by
    rintro rfl
    exact h (.inl (first_best hx (machines_at hok hx)))
  unfold untilB
  rw [if_neg (by omega), if_neg hk, bestB_F hx h]
end
def agreedOffset (xs : List Mach) : Int × Int × Int × Int :=
  if askMachines xs = 0 then ((bestB xs xs.length).1, untilB xs xs.length, (bestB xs xs.length).2, 0) else (0, 0, 0, askMachines xs)
end Go.V
namespace Go.V
open Go
theorem agreed_bad {xs : List Mach} (h : ¬ askMachines xs = 0) : PV.tup [.v (.int .i64 0), .v (.int .i64 0), .v (.int .i64 0), .v (.int .i64 (askMachines xs))] =
    .tup [.v (.int .i64 (agreedOffset xs).1), .v (.int .i64 (agreedOffset xs).2.1), .v (.int .i64 (agreedOffset xs).2.2.1), .v (.int .i64 (agreedOffset xs).2.2.2)] := by
  unfold agreedOffset; rw [if_neg h]
theorem agreed_ok {xs : List Mach} (h : askMachines xs = 0) (hl : 0 < xs.length) : PV.tup [.v (.int .i64 (bestB xs xs.length).1), .v (.int .i64 (endTo xs (bestB xs xs.length).1 3000000000 xs.length)), .v (.int .i64 (bestB xs xs.length).2), .v (.int .i64 0)] =
    .tup [.v (.int .i64 (agreedOffset xs).1), .v (.int .i64 (agreedOffset xs).2.1), .v (.int .i64 (agreedOffset xs).2.2.1), .v (.int .i64 (agreedOffset xs).2.2.2)] := by
  unfold agreedOffset; rw [if_pos h]; unfold untilB; rw [if_neg (by omega)]
end Go.V
/- Regions that draw their order and act: the orders that differ are walked, the rest is taken first. -/
namespace Go.V
open Go Go.RowKit

section
variable {P : Program} {fr : Fr} {st : St}
/-- In whatever world the operation yields one value. -/
def YldA (P : Program) (fr : Fr) (o : Oper) (st : St) (av : AV) : Prop :=
  ∀ η φ a w, RepE fr η φ st a w → ∃ u, (∀ w', (execOp a.eval o).run P w' = .ok (.value u) w') ∧ ARel η (SOf φ st.hp) w av u
theorem YldA.of_run {o : Oper} {av : AV} (h : ∀ η φ a w, RepE fr η φ st a w → ∃ u, (∀ w', True → (execOp a.eval o).run P w' = .ok (.value u) w') ∧ ARel η (SOf φ st.hp) w av u) : YldA P fr o st av :=
  fun η φ a w hr => let ⟨u, h1, h2⟩ := h η φ a w hr; ⟨u, fun w' => h1 w' trivial, h2⟩
variable {d : Option Tmp} {t : TypeId} {pos : String} {aft : Array Edge} {g : Option (Nat × Bool)}
theorem YldA.move {x : Operand} {av : AV} (hx : st.ev x = some av) : YldA P fr ⟨d, .move x, t, pos, aft, g⟩ st av :=
  YldA.of_run fun _ _ a _ hr => ⟨a.eval x, fun _ _ => rfl, hr.ev hx⟩
theorem YldA.assign {x : Operand} {av : AV} (hx : st.ev x = some av) : YldA P fr ⟨d, .assign x, t, pos, aft, g⟩ st av :=
  YldA.of_run fun _ _ a _ hr => ⟨a.eval x, fun _ _ => rfl, hr.ev hx⟩
theorem YldA.int {op : BinOp} {ty ty2 : TypeId} {x y : Operand} {k : IntKind} {a b : Int} {u : Value} (hx : st.ev x = some (.p (.v (.int k a)))) (hy : st.ev y = some (.p (.v (.int k b))))
    (hop : iop op k a b = some u) : YldA P fr ⟨d, .binOp op ty x y ty2, t, pos, aft, g⟩ st (.p (.v u)) :=
  YldA.of_run fun _ _ A _ hr => ⟨u, fun w' _ => by
    have h1 := hr.ev hx
    have h2 := hr.ev hy
    simp only [ARel, Rel] at h1 h2
    have := run_iop (P := P) hop ty x y w'
    simp only [execOp, h1, h2, Sem.run_bind, Sem.run_pure] at this ⊢
    rw [this]; rfl, by simp [ARel, Rel]⟩
theorem YldA.indexAddr {ty : TypeId} {x i : Operand} {av av' : AV} {rs n : Nat} {e : TypeId} {k : IntKind} {j : Int} (hs : P.underlying ty = some (.slice e)) (hsz : ∀ w, (sizeOf e).run P w = .ok rs w)
    (hx : st.ev x = some av) (hi : st.ev i = some (.p (.v (.int k j)))) (hb : st.rows av = some (rs, n)) (h0 : 0 ≤ j) (h1 : j < n) (hat : st.at j.toNat av = some av') :
    YldA P fr ⟨d, .indexAddr ty x i, t, pos, aft, g⟩ st av' :=
  YldA.of_run fun η φ A w hr => by
    have hrel := hr.ev hx
    have hj := hr.ev hi
    simp only [ARel, Rel] at hj
    have key : ∃ b o cap, A.eval x = .slice (some ⟨b, o, none⟩) n cap ∧ ARel η (SOf φ st.hp) w av' (.pointer (some ⟨b, o + j.toNat * rs, none⟩)) := by
      cases av with
      | p y =>
        cases y with
        | sl rs' rows =>
          simp only [St.rows, Option.some.injEq, Prod.mk.injEq] at hb
          obtain ⟨rfl, rfl⟩ := hb
          simp only [ARel, Rel] at hrel
          obtain ⟨a, cap, e1, e2, e3⟩ := hrel
          simp only [St.at] at hat
          cases hrow : rows[j.toNat]? with
          | none => rw [hrow] at hat; cases hat
          | some r =>
            rw [hrow] at hat
            simp only [Option.some.injEq] at hat; subst hat
            rcases e3 with e3 | ⟨b, o, rfl, e4, e5, e6⟩
            · subst e3; simp at hrow
            · exact ⟨b, o, cap, e1, by simp only [ARel, Rel]; exact ⟨b, o + j.toNat * rs', rfl, e4, e5, (relRows_getElem o rows _ r e6 hrow).2⟩⟩
        | _ => cases hb
      | h id =>
        simp only [St.rows] at hb
        simp only [St.at] at hat
        cases hg : get st.hp id with
        | none => rw [hg] at hb; cases hb
        | some r =>
          rw [hg] at hb hat
          cases r with
          | cust C => cases hb
          | box ty cs' => cases hb
          | vec ty rs' rows =>
            simp only [Option.some.injEq, Prod.mk.injEq] at hb
            obtain ⟨rfl, rfl⟩ := hb
            simp only [Option.some.injEq] at hat; subst hat
            obtain ⟨xs, e1, e2, e3, e4⟩ := hr.res id _ hg
            simp only [ARel] at hrel ⊢
            rcases e3.2 with ⟨ev, hn⟩ | ⟨g', cap, cur, ev, _⟩
            · omega
            · exact ⟨g', 0, cap, by rw [hrel, ev], g', by rw [ev]; rfl, by simp⟩
      | _ => cases hb
    obtain ⟨b, o, cap, e1, e2⟩ := key
    refine ⟨_, fun w' hw' => ?_, e2⟩
    simp [execOp, e1, hj, Instr.indexAt, asIntOf, run_underlying hs, h0, h1, hsz, add_plain]
theorem YldA.fieldAddr {s : TypeId} {x : Operand} {i : Nat} {av av' : AV} {cs : List AV} {fs : Array Field} {f : Field} {off n : Nat} (hs : P.underlying s = some (.struct fs)) (hf : fs[i]? = some f)
    (ho : f.offset = off) (hsz : ∀ w, (sizeOf f.type).run P w = .ok (n + 1) w) (hx : st.ev x = some av) (hb : st.behind av = some cs) (hav : av.field off = some av') :
    YldA P fr ⟨d, .fieldAddr s x i, t, pos, aft, g⟩ st av' :=
  YldA.of_run fun η φ A w hr => by
    have hrel := hr.ev hx
    obtain ⟨b, o, h1, h2, h3⟩ := behind_rel hb hr hrel
    refine ⟨.pointer (some ⟨b, o + off, none⟩), fun w' hw' => ?_, ?_⟩
    · simp [execOp, h1, Instr.fieldAt, run_underlying hs, hf, Instr.sureAddr, fieldPlace, hsz, ho, add_plain]
    · cases av with
      | p y =>
        cases y with
        | ptr cs' =>
          simp only [AV.field, Option.some.injEq] at hav; subst hav
          simp only [ARel, Rel] at hrel ⊢
          obtain ⟨b', o', e1, e2, e3, e4⟩ := hrel
          rw [e1] at h1
          simp only [Value.pointer.injEq, Option.some.injEq, Addr.mk.injEq, and_true] at h1
          obtain ⟨rfl, rfl⟩ := h1
          exact ⟨b', o' + off, rfl, e2, e3, relAt_drop off o' cs' e4⟩
        | _ => cases hav
      | h id =>
        simp only [AV.field, Option.some.injEq] at hav; subst hav
        simp only [ARel] at hrel ⊢
        simp only [St.behind] at hb
        cases hg : get st.hp id with
        | none => rw [hg] at hb; cases hb
        | some r =>
          rw [hg] at hb
          cases r with
          | box ty cs' =>
            obtain ⟨b', arr, e1, _⟩ := hr.res id _ hg
            rw [hrel, e1] at h1
            simp only [Value.pointer.injEq, Option.some.injEq, Addr.mk.injEq, and_true] at h1
            obtain ⟨rfl, rfl⟩ := h1
            exact ⟨b', by rw [e1]; rfl, by simp⟩
          | cust C => cases hb
          | vec ty rs rows => cases hb
      | el id rs row o' =>
        simp only [AV.field, Option.some.injEq] at hav; subst hav
        simp only [ARel] at hrel ⊢
        obtain ⟨b', e1, e2⟩ := hrel
        rw [e2] at h1
        simp only [Value.pointer.injEq, Option.some.injEq, Addr.mk.injEq, and_true] at h1
        obtain ⟨rfl, rfl⟩ := h1
        exact ⟨b', e1, by rw [Nat.add_assoc]⟩
      | _ => cases hav
theorem YldA.add {ty ty2 : TypeId} {x y : Operand} {a b : Int} (hx : st.ev x = some (.p (.v (.int .i64 a)))) (hy : st.ev y = some (.p (.v (.int .i64 b)))) (h1 : -9223372036854775808 ≤ a + b) (h2 : a + b ≤ 9223372036854775807) :
    YldA P fr ⟨d, .binOp .add ty x y ty2, t, pos, aft, g⟩ st (.p (.v (.int .i64 (a + b)))) :=
  YldA.int hx hy (by simp only [iop, wrap_id h1 h2])
theorem YldA.sub {ty ty2 : TypeId} {x y : Operand} {a b : Int} (hx : st.ev x = some (.p (.v (.int .i64 a)))) (hy : st.ev y = some (.p (.v (.int .i64 b)))) (h1 : -9223372036854775808 ≤ a - b) (h2 : a - b ≤ 9223372036854775807) :
    YldA P fr ⟨d, .binOp .sub ty x y ty2, t, pos, aft, g⟩ st (.p (.v (.int .i64 (a - b)))) :=
  YldA.int hx hy (by simp only [iop, wrap_id h1 h2])
theorem YldA.indexSl {ty : TypeId} {x i : Operand} {rs m : Nat} {e : TypeId} {kk : IntKind} {j : Int} {rows : List (List PV)} {r : List PV} (hs : P.underlying ty = some (.slice e)) (hsz : ∀ w, (sizeOf e).run P w = .ok rs w)
    (hx : st.ev x = some (.p (.sl rs rows))) (hi : st.ev i = some (.p (.v (.int kk j)))) (hr : rows[m]? = some r) (hj : j = m) :
    YldA P fr ⟨d, .indexAddr ty x i, t, pos, aft, g⟩ st (.p (.ptr r)) := by
  have hm : m < rows.length := (List.getElem?_eq_some_iff.1 hr).1
  subst hj
  exact YldA.indexAddr hs hsz hx hi (n := rows.length) rfl (by omega) (by omega) (by simp [St.at, hr])
theorem YldA.indexVec {ty ty' : TypeId} {x i : Operand} {rs m id : Nat} {e : TypeId} {kk : IntKind} {j : Int} {rows : List (List PV)} (hs : P.underlying ty = some (.slice e)) (hsz : ∀ w, (sizeOf e).run P w = .ok rs w)
    (hx : st.ev x = some (.h id)) (hg : get st.hp id = some (.vec ty' rs rows)) (hi : st.ev i = some (.p (.v (.int kk j)))) (hj : j = m) (hm : m < rows.length) :
    YldA P fr ⟨d, .indexAddr ty x i, t, pos, aft, g⟩ st (.el id rs m 0) := by
  subst hj
  exact YldA.indexAddr hs hsz hx hi (n := rows.length) (by simp [St.rows, hg]) (by omega) (by omega) (by simp [St.at, hg])
end

section
variable {P : Program} {fr : Fr} {st st' : St} {ops : Array Oper} {rest : List Oper} {k : List It} {o : Oper}

/-- What an operation does, whatever stands behind it. -/
def Eff (P : Program) (fr : Fr) (o : Oper) (st st' : St) : Prop := ∀ a w, Rep fr st a w →
  (∃ u w', (execOp a.eval o).run P w = .ok (.value u) w' ∧ Rep fr st' (a.put o.dst u) w') ∨
  (∃ w', (execOp a.eval o).run P w = .ok .skip w' ∧ Rep fr st' (a.put o.dst undef) w') ∨
  (∃ f args w', (execOp a.eval o).run P w = .ok (.enter f args) w' ∧ Calls P f args w' fun e w'' => ∃ u, e = .returned u ∧ Rep fr st' (a.put o.dst u) w'')

theorem Eff.wp (h : Eff P fr o st st') {K : Act → World → Prop} {Q : Exit → Act → World → Prop} {a : Act} {w : World} (hr : Rep fr st a w) (hK : ∀ a' w', Rep fr st' a' w' → K a' w') : o.wp P a w K Q := by
  unfold Oper.wp
  rcases h a w hr with ⟨u, w', e, h'⟩ | ⟨w', e, h'⟩ | ⟨f, args, w', e, h'⟩
  · rw [e]; exact hK _ _ h'
  · rw [e]; exact hK _ _ h'
  · rw [e]; exact Calls.mono h' (fun e w'' ⟨u, e1, h2⟩ => by subst e1; exact hK _ _ h2)

theorem AO.eff (hg : o.guard = none) (h : Eff P fr o st st') (hk : AO P fr ops rest k false st') : AO P fr ops (o :: rest) k false st := fun a w hr => by
  simp only [wpList, wanted_none hg, if_true]
  exact .inl (h.wp hr hk)

theorem Eff.yld {av : AV} {d : Nat} (hy : Yld P fr o st av) (hd : o.dst = some d) (hlt : Nat.blt d fr.nt = true) : Eff P fr o st (st.put d av) := by
  rintro a w ⟨η, φ, hr⟩
  obtain ⟨u, h1, h2⟩ := hy η φ a w hr
  have hq := h1 w (Below.refl _ _)
  unfold Oper.quietAt at hq
  generalize hg : (execOp a.eval o).run P w = r at hq
  cases r with
  | ok n w' =>
    cases n with
    | value x =>
      obtain ⟨rfl, rfl⟩ := hq
      exact .inl ⟨_, _, rfl, η, φ, by rw [hd]; exact hr.put hlt h2⟩
    | skip =>
      obtain ⟨rfl, rfl⟩ := hq
      exact .inr (.inl ⟨_, rfl, η, φ, by rw [hd]; exact hr.put hlt h2⟩)
    | enter f args =>
      obtain ⟨rfl, hc⟩ := hq
      refine .inr (.inr ⟨f, args, w', rfl, hc.mono fun e w'' ⟨e1, e2⟩ => ⟨u, e1, η, φ, ?_⟩⟩)
      have h2' : ARel η (SOf φ st.hp) w'' av u := ARel.mono (Same.of_below e2) (fun _ _ h => h) _ _ (fun _ _ => rfl) h2
      rw [hd]; exact (hr.below e2).put hlt h2'
    | _ => exact hq.elim
  | halt x w' => exact hq.elim

variable {d : Nat} {t : TypeId} {pos : String} {aft : Array Edge}
theorem Eff.alloc {ty : TypeId} (id : Nat) {z : Value} {cs : List PV} (hz : ∀ w, (zeroValue ty).run P w = .ok z w) (hc : z.cells.toList.map zpv = cs) (hf : st.fresh id = true) (hlt : Nat.blt d fr.nt = true) (hpin : get fr.pin id = none := by rfl) :
    Eff P fr ⟨some d, .alloc ty, t, pos, aft, none⟩ st ⟨(d, .h id) :: st.tm, (id, .box ty (cs.map .p)) :: st.hp⟩ :=
  fun a w ⟨η, φ, hr⟩ => .inl ⟨_, _, by simp [execOp, Instr.alloc, hz, newVar, newRow], hr.box id hf ty (cs.map .p) z.cells
    (namesL_map id cs) (relL_map cs _ (hc ▸ zpvs_rel _ _ _)) hlt hpin⟩
theorem Eff.store {ty : TypeId} {x y : Operand} {av vv : AV} {vs : List AV} {n id : Nat} {r' : Res} (hsz : ∀ w, (sizeOf ty).run P w = .ok n w) (hx : st.ev x = some av) (hy : st.ev y = some vv)
    (hc : st.cellsOf vv = some vs) (hn : Nat.beq vs.length n = true) (ho : st.ones vs = true) (hs : st.store vs av = some (id, r')) :
    Eff P fr ⟨none, .store ty x y, t, pos, aft, none⟩ st ⟨st.tm, setR id r' st.hp⟩ :=
  fun a w ⟨η, φ, hr⟩ => by
    obtain ⟨w', h1, h2⟩ := hr.store hs (hr.ev hx) (cellsOf_rel hc hr (hr.ev hy)) hsz (Nat.eq_of_beq_eq_true hn) ho
    exact .inr (.inl ⟨w', by simp [execOp, h1], η, φ, h2⟩)

/-! The orders of a region. -/
def qn (K : Act → World → Prop) : Exit → Act → World → Prop := fun e a w => e = .normal ∧ K a w
def AN (P : Program) (fr : Fr) (ops : Array Oper) (fin : St) (fuel : Nat) (listed : Array Bool) (st : St) : Prop :=
  ∀ a w, Rep fr st a w → wpAny P .any ops (qn (Rep fr fin)) fuel listed a w
def Stp (P : Program) (fr : Fr) (ops : Array Oper) (fin : St) (fuel : Nat) (listed : Array Bool) (st : St) (i : Nat) : Prop :=
  ∀ a w, Rep fr st a w → wpOp P ops (qn (Rep fr fin)) i (wpAny P .any ops (qn (Rep fr fin)) fuel (listed.setIfInBounds i true)) a w
def AllI (p : Nat → Prop) : List Nat → Prop
  | [] => True
  | i :: l => p i ∧ AllI p l
theorem AllI.spec {p : Nat → Prop} : ∀ {l : List Nat}, AllI p l → ∀ i ∈ l, p i
  | [], _, _, h => by cases h
  | j :: l, ⟨h1, h2⟩, i, h => by
    rcases List.mem_cons.1 h with rfl | h
    · exact h1
    · exact AllI.spec h2 i h

variable {fin : St} {fuel : Nat} {listed : Array Bool}
theorem AC.drawAny {id : Nat} {l : List Oper} (fin : St) (hm : P.follows .mixedOrders = true) (h : AN P fr l.toArray fin l.length (Array.replicate l.length false) st) (hk : AC P fr k fin) :
    AC P fr (.code (.region id l.toArray true) :: k) st := by
  rintro a w ⟨η, φ, hr⟩
  have hd : Below w.heap.size w { w with drawn := w.drawn + 1 } := Below.drew (Below.refl _ _)
  refine wp_mono (wp_region_any (Q := qn (Rep fr fin)) hm ?_) (fun e a w ⟨e1, h'⟩ => by subst e1; exact hk a w h')
  have := h a _ ⟨η, φ, hr.below hd⟩
  simpa using this
theorem AN.take (i : Nat) {o : Oper} {d : Nat} {av : AV} (ho : ops[i]? = some o) (hs : Region.noSelect ops = true) (hf : Region.free .any ops listed i = true) (hr : (Region.ready .any ops listed).contains i = true)
    (hd : o.dst = some d) (hg : o.guard = none) (hlt : Nat.blt d fr.nt = true) (hy : YldA P fr o st av) (h : AN P fr ops fin fuel (listed.setIfInBounds i true) (st.put d av)) : AN P fr ops fin (fuel + 1) listed st := by
  rintro a w ⟨η, φ, hr'⟩
  obtain ⟨u, h1, h2⟩ := hy η φ a w hr'
  exact wpAny_take ho hs hf hr (fun c a w h => by cases h.1) (.inl ⟨wanted_none hg _, h1⟩) (h _ _ ⟨η, φ, by rw [hd]; exact hr'.put hlt h2⟩)
theorem AN.all {rs : List Nat} (hr : Region.ready .any ops listed = rs) (hne : rs.isEmpty = false) (h : AllI (Stp P fr ops fin fuel listed st) rs) : AN P fr ops fin (fuel + 1) listed st :=
  fun a w hr' => wpAny_all hr (by intro e; rw [e] at hne; cases hne) (fun i hi => h.spec i hi a w hr')
theorem Stp.eff {i : Nat} {o : Oper} (ho : ops[i]? = some o) (hg : o.guard = none) (he : Eff P fr o st st') (h : AN P fr ops fin fuel (listed.setIfInBounds i true) st') : Stp P fr ops fin fuel listed st i := by
  intro a w hr
  unfold wpOp
  simp only [ho, wanted_none hg, if_true]
  exact .inl (he.wp hr h)
theorem AN.done (hr : Region.ready .any ops listed = []) (hl : Le fr st fin) : AN P fr ops fin fuel listed st :=
  fun a w h => wpAny_done hr ⟨rfl, hl a w h⟩ fuel
end
end Go.V
/- The calculus' rules: contracts of functions that act on what one owns, or hand several new things back. -/
namespace Go.V
open Go Go.RowKit

/-! Names turned. -/
mutual
def AV.rnm (ρ : Nat → Nat) : AV → AV
  | .h i => .h (ρ i)
  | .el i rs row off => .el (ρ i) rs row off
  | .agg cs => .agg (AV.rnmL ρ cs)
  | .tup cs => .tup (AV.rnmL ρ cs)
  | .clo f cs => .clo f (AV.rnmL ρ cs)
  | .p x => .p x
  | .junk => .junk
def AV.rnmL (ρ : Nat → Nat) : List AV → List AV
  | [] => []
  | c :: cs => c.rnm ρ :: AV.rnmL ρ cs
end
def Res.rnm (ρ : Nat → Nat) : Res → Res
  | .box ty cs => .box ty (AV.rnmL ρ cs)
  | .vec ty rs rows => .vec ty rs rows
  | .cust C => .cust C
/-- The name at a place of a list. -/
def rn : List Nat → Nat → Nat
  | [], _ => 0
  | j :: _, 0 => j
  | _ :: l, i + 1 => rn l i
def rnH (ρ : Nat → Nat) : List (Nat × Res) → List (Nat × Res)
  | [] => []
  | (i, r) :: l => (ρ i, r.rnm ρ) :: rnH ρ l

section
variable {η : Nat → Value} {S : Nat → Prop} {w : World} {ρ : Nat → Nat}
mutual
theorem ARel.rnm : ∀ (a : AV) (u : Value), ARel (fun i => η (ρ i)) S w a u ↔ ARel η S w (a.rnm ρ) u
  | .p x, u => by simp only [ARel, AV.rnm]
  | .h i, u => by simp only [ARel, AV.rnm]
  | .el i rs row off, u => by simp only [ARel, AV.rnm]
  | .agg cs, u => by
    simp only [ARel, AV.rnm]
    exact exists_congr fun us => and_congr_right fun _ => ARelL.rnm cs us.toList
  | .tup cs, u => by
    simp only [ARel, AV.rnm]
    exact exists_congr fun us => and_congr_right fun _ => ARelL.rnm cs us.toList
  | .clo f cs, u => by
    simp only [ARel, AV.rnm]
    exact exists_congr fun us => and_congr_right fun _ => ARelL.rnm cs us.toList
  | .junk, u => by simp only [ARel, AV.rnm]
theorem ARelL.rnm : ∀ (cs : List AV) (us : List Value), ARelL (fun i => η (ρ i)) S w cs us ↔ ARelL η S w (AV.rnmL ρ cs) us
  | [], us => by simp only [ARelL, AV.rnmL]
  | c :: cs, us => by
    simp only [ARelL, AV.rnmL]
    exact exists_congr fun u => exists_congr fun us' => and_congr_right fun _ => and_congr (ARel.rnm c u) (ARelL.rnm cs us')
end
theorem RRes.rnm {hd : Value} {F : List Nat} (r : Res) : RRes (fun i => η (ρ i)) S w hd F r ↔ RRes η S w hd F (r.rnm ρ) := by
  cases r with
  | box ty cs =>
    simp only [RRes, Res.rnm]
    exact exists_congr fun b => exists_congr fun arr => and_congr_right fun _ => and_congr_right fun _ => and_congr_right fun _ => ARelL.rnm cs arr.toList
  | vec ty rs rows => exact Iff.rfl
  | cust C => exact Iff.rfl
end

mutual
/-- All names are of a list. -/
def AV.inB (l : List Nat) : AV → Bool
  | .h i => l.contains i
  | .el i _ _ _ => l.contains i
  | .agg cs => AV.inBL l cs
  | .tup cs => AV.inBL l cs
  | .clo _ cs => AV.inBL l cs
  | .p _ => true
  | .junk => true
def AV.inBL (l : List Nat) : List AV → Bool
  | [] => true
  | c :: cs => c.inB l && AV.inBL l cs
end
def Res.inB (l : List Nat) : Res → Bool
  | .box _ cs => AV.inBL l cs
  | _ => true
def inBH (l : List Nat) : List (Nat × Res) → Bool
  | [] => true
  | (i, r) :: h => l.contains i && r.inB l && inBH l h
mutual
theorem AV.inB_spec {l : List Nat} {i : Nat} : ∀ a : AV, a.inB l = true → a.names i = true → i ∈ l
  | .h j, hb, hn => by simp only [AV.inB, AV.names] at hb hn; rw [Nat.eq_of_beq_eq_true hn] at hb; simpa using hb
  | .el j _ _ _, hb, hn => by simp only [AV.inB, AV.names] at hb hn; rw [Nat.eq_of_beq_eq_true hn] at hb; simpa using hb
  | .agg cs, hb, hn => AV.inBL_spec cs (by simpa only [AV.inB] using hb) (by simpa only [AV.names] using hn)
  | .tup cs, hb, hn => AV.inBL_spec cs (by simpa only [AV.inB] using hb) (by simpa only [AV.names] using hn)
  | .clo _ cs, hb, hn => AV.inBL_spec cs (by simpa only [AV.inB] using hb) (by simpa only [AV.names] using hn)
  | .p _, _, hn => by simp [AV.names] at hn
  | .junk, _, hn => by simp [AV.names] at hn
theorem AV.inBL_spec {l : List Nat} {i : Nat} : ∀ cs : List AV, AV.inBL l cs = true → AV.namesL i cs = true → i ∈ l
  | [], _, hn => by simp [AV.namesL] at hn
  | c :: cs, hb, hn => by
    simp only [AV.inBL, Bool.and_eq_true] at hb
    simp only [AV.namesL, Bool.or_eq_true] at hn
    rcases hn with hn | hn
    · exact AV.inB_spec c hb.1 hn
    · exact AV.inBL_spec cs hb.2 hn
end
theorem inBH_spec {l : List Nat} : ∀ {hp : List (Nat × Res)}, inBH l hp = true → ∀ i r, get hp i = some r → i ∈ l ∧ ∀ j, r.names j = true → j ∈ l
  | [], _, _, _, h => by cases h
  | (j, r0) :: hp, hb, i, r, h => by
    simp only [inBH, Bool.and_eq_true] at hb
    rw [get_cons] at h
    split at h
    · next e =>
      subst e; obtain rfl := Option.some.inj h
      refine ⟨by simpa using hb.1.1, fun k hk => ?_⟩
      cases r0 with
      | box ty cs => exact AV.inBL_spec cs hb.1.2 hk
      | vec => simp [Res.names] at hk
      | cust => simp [Res.names] at hk
    · exact inBH_spec hb.2 i r h

/-- A function that acts on things of one's own ('hi') and hands things back ('ho'), for some x of which R holds; 'kp': whose handles stay. -/
def FnX {α : Type} (P : Program) (f : FuncId) (args : List AV) (hi : List (Nat × Res)) (kp : List Nat) (R : α → Prop) (r : α → AV) (ho : α → List (Nat × Res)) : Prop :=
  ∀ η φ w (us : List Value), HpOk η φ hi w → ARelL η (SOf φ hi) w args us →
    Calls P f us.toArray w fun e w' => ∃ x, R x ∧ ∃ u η' φ', e = .returned u ∧ HpOk η' φ' (ho x) w' ∧ ARel η' (SOf φ' (ho x)) w' (r x) u ∧ (∀ i, i ∈ kp → η' i = η i) ∧
      (∀ i r k, get (ho x) i = some r → k ∈ φ' i → SOf φ hi k ∨ w.heap.size ≤ k) ∧ Keep (SOf φ hi) w w'

/-- The things that a call is handed, by their names here. -/
def HasH (hp : List (Nat × Res)) (ρ : Nat → Nat) : List (Nat × Res) → Prop
  | [] => True
  | (i, r) :: l => get hp (ρ i) = some (r.rnm ρ) ∧ HasH hp ρ l
theorem HasH.spec {hp : List (Nat × Res)} {ρ : Nat → Nat} : ∀ {l : List (Nat × Res)}, HasH hp ρ l → ∀ i r, get l i = some r → get hp (ρ i) = some (r.rnm ρ)
  | [], _, _, _, h => by cases h
  | (j, r0) :: l, hh, i, r, h => by
    rw [get_cons] at h
    split at h
    · next e => subst e; obtain rfl := Option.some.inj h; exact hh.1
    · exact hh.2.spec i r h

/-- What is passed, beside what the contract says. -/
inductive Pass (st : St) (ρ : Nat → Nat) (hi : List (Nat × Res)) : List AV → List AV → Prop
  | nil : Pass st ρ hi [] []
  | own {c : AV} {av : AV} {l l' : List AV} : c.rnm ρ = av → Pass st ρ hi l l' → Pass st ρ hi (c :: l) (av :: l')
  | view {x : PV} {av : AV} {l l' : List AV} : hi = [] → st.view av = some x → Pass st ρ hi l l' → Pass st ρ hi (.p x :: l) (av :: l')
  | vec {id : Nat} {ty : TypeId} {rs : Nat} {rows : List (List PV)} {l l' : List AV} : get st.hp id = some (.vec ty rs rows) → (hi.map fun p => ρ p.1).contains id = false → Pass st ρ hi l l' → Pass st ρ hi (.p (.sl rs rows) :: l) (.h id :: l')

theorem vec_viewS {fr : Fr} {st : St} {η : Nat → Value} {φ : Nat → List Nat} {a : Act} {w : World} (hr : RepE fr η φ st a w) {id : Nat} {ty : TypeId} {rs : Nat} {rows : List (List PV)} (hg : get st.hp id = some (.vec ty rs rows))
    {S : Nat → Prop} (hS : ∀ k, S k → SOf φ st.hp k) (hn : ∀ k, S k → k ∉ φ id) : Rel S w (.sl rs rows) (η id) := by
  have h := hr.res id _ hg
  obtain ⟨xs, h1, h2, h3, h4⟩ := h
  simp only [Rel]
  rcases h3.2 with ⟨e, hn0⟩ | ⟨g, cap, cur, e, _, hgb, hnc, _⟩
  · exact ⟨none, 0, by rw [e, hn0], by omega, .inl (List.eq_nil_of_length_eq_zero hn0)⟩
  · refine ⟨_, cap, e, hnc, .inr ⟨g, 0, rfl, fun hk => hn g hk (by rw [h4, e]; simp [Value.ownBlock]), (Array.getElem?_eq_some_iff.1 hgb).1, ?_⟩⟩
    refine RelRows.mono (S := SOf φ st.hp) (w := w) ⟨Nat.le_refl _, fun _ _ _ => rfl⟩ (fun k _ h => hS k h) rfl 0 rows (relRows_of_at rows 0 h2 (fun i r hir => ?_))
    have := (hr.res id _ hg).row hir (b := g) (by rw [e]; rfl)
    simpa using this

theorem Pass.rel {st : St} {ρ : Nat → Nat} {hi : List (Nat × Res)} {l l' : List AV} (hp : Pass st ρ hi l l') (hh : HasH st.hp ρ hi) {fr : Fr} {η : Nat → Value} {φ : Nat → List Nat} {a : Act} {w : World} (hr : RepE fr η φ st a w) :
    ∀ us, ARelL η (SOf φ st.hp) w l' us → ARelL (fun i => η (ρ i)) (SOf (fun i => φ (ρ i)) hi) w l us := by
  have hS : ∀ k, SOf (fun i => φ (ρ i)) hi k → SOf φ st.hp k := by
    rintro k ⟨i, r, hg, hm⟩; exact ⟨ρ i, _, hh.spec i r hg, hm⟩
  have hw : Same (SOf φ st.hp) w w := ⟨Nat.le_refl _, fun _ _ _ => rfl⟩
  induction hp with
  | nil => intro us h; simpa only [ARelL] using h
  | own e _ ih =>
    intro us h
    simp only [ARelL] at h ⊢
    obtain ⟨u, us', rfl, h2, h3⟩ := h
    refine ⟨u, us', rfl, ?_, ih _ h3⟩
    rw [← e] at h2
    exact (ARel.rnm _ _).2 (ARel.mono hw (fun k _ h => hS k h) _ _ (fun _ _ => rfl) h2)
  | view e hv _ ih =>
    intro us h
    simp only [ARelL] at h ⊢
    obtain ⟨u, us', rfl, h2, h3⟩ := h
    refine ⟨u, us', rfl, ?_, ih _ h3⟩
    simp only [ARel]
    refine Rel.mono (S := fun _ => False) ⟨Nat.le_refl _, fun _ _ _ => rfl⟩ (fun k _ h => ?_) _ _ (view_rel hv hr h2)
    obtain ⟨i, r, hg, _⟩ := h
    rw [e] at hg; cases hg
  | vec hg hc _ ih =>
    intro us h
    simp only [ARelL] at h ⊢
    obtain ⟨u, us', rfl, h2, h3⟩ := h
    refine ⟨u, us', rfl, ?_, ih _ h3⟩
    simp only [ARel] at h2 ⊢
    subst h2
    refine vec_viewS hr hg hS ?_
    rintro k ⟨i, r, hg', hm⟩ hk
    have hid := hr.disj _ _ _ _ k hg (hh.spec i r hg') hk hm
    have hmem : ∀ {hi : List (Nat × Res)}, get hi i = some r → ρ i ∈ hi.map fun p => ρ p.1 := by
      intro hi
      induction hi with
      | nil => intro h; cases h
      | cons p l ih2 =>
        intro h
        obtain ⟨j, r0⟩ := p
        rw [get_cons] at h
        split at h
        · next e => simp [e]
        · simp only [List.map_cons, List.mem_cons]; exact .inr (ih2 h)
    have : (hi.map fun p => ρ p.1).contains (ρ i) = true := by simpa using hmem hg'
    rw [← hid, hc] at this
    cases this

/-! The state behind a call. -/
def dropTs : List Nat → List (Nat × AV) → List (Nat × AV)
  | [], tm => tm
  | i :: l, tm => dropTs l (dropT i tm)
def dropHs : List Nat → List (Nat × Res) → List (Nat × Res)
  | [], hp => hp
  | i :: l, hp => dropHs l (dropH i hp)
def remH (ids : List Nat) : List (Nat × Res) → List (Nat × Res)
  | [] => []
  | (j, r) :: l => match ids.contains j with
    | true => remH ids l
    | false => (j, r) :: remH ids l
theorem get_remH (ids : List Nat) : ∀ (l : List (Nat × Res)) (i : Nat), get (remH ids l) i = if i ∈ ids then none else get l i
  | [], i => by simp [remH, get]
  | (j, r) :: l, i => by
    simp only [remH]
    by_cases hj : j ∈ ids
    · have : ids.contains j = true := by simpa using hj
      rw [this]
      simp only [get_remH ids l i, get_cons]
      by_cases hi : i ∈ ids
      · rw [if_pos hi, if_pos hi]
      · rw [if_neg hi, if_neg hi, if_neg (fun (e : j = i) => hi (by rw [← e]; exact hj))]
    · have : ids.contains j = false := by simpa using hj
      rw [this]
      simp only [get_cons, get_remH ids l i]
      by_cases e : j = i
      · subst e; rw [if_pos rfl, if_neg hj, if_pos rfl]
      · rw [if_neg e, if_neg e]
theorem get_append {α : Type} : ∀ (l l' : List (Nat × α)) (i : Nat), get (l ++ l') i = (get l i).or (get l' i)
  | [], l', i => by simp [get]
  | (j, x) :: l, l', i => by
    rw [List.cons_append, get_cons, get_cons]
    split
    · simp
    · exact get_append l l' i
theorem get_rnH {ρ : Nat → Nat} : ∀ (l : List (Nat × Res)) (j : Nat) (r : Res), get (rnH ρ l) j = some r → ∃ i r0, r = r0.rnm ρ ∧ j = ρ i ∧ (i, r0) ∈ l
  | [], _, _, h => by cases h
  | (i, r0) :: l, j, r, h => by
    simp only [rnH, get_cons] at h
    split at h
    · next e => obtain rfl := Option.some.inj h; exact ⟨i, r0, rfl, e.symm, by simp⟩
    · obtain ⟨i', r1, h1, h2, h3⟩ := get_rnH l j r h; exact ⟨i', r1, h1, h2, by simp [h3]⟩
theorem get_rnH_none {ρ : Nat → Nat} : ∀ (l : List (Nat × Res)) (j : Nat), (∀ p ∈ l, ρ p.1 ≠ j) → get (rnH ρ l) j = none
  | [], _, _ => rfl
  | (i, r0) :: l, j, h => by
    simp only [rnH, get_cons]
    rw [if_neg (h (i, r0) (by simp))]
    exact get_rnH_none l j (fun p hp => h p (by simp [hp]))

def noneB (pin : List (Nat × Value)) : List Nat → Bool
  | [] => true
  | i :: l => match get pin i with
    | none => noneB pin l
    | some _ => false
theorem noneB_spec {pin : List (Nat × Value)} : ∀ {l : List Nat}, noneB pin l = true → ∀ i ∈ l, get pin i = none
  | [], _, _, h => by cases h
  | j :: l, hb, i, hi => by
    simp only [noneB] at hb
    cases hg : get pin j with
    | some v => rw [hg] at hb; cases hb
    | none =>
      rw [hg] at hb
      rcases List.mem_cons.1 hi with rfl | hi
      · exact hg
      · exact noneB_spec hb i hi
def freshAll (st : St) : List Nat → Bool
  | [] => true
  | i :: l => match st.fresh i with
    | true => freshAll st l
    | false => false
theorem freshAll_spec {st : St} : ∀ {l : List Nat}, freshAll st l = true → ∀ i ∈ l, st.fresh i = true
  | [], _, _, h => by cases h
  | j :: l, hb, i, hi => by
    simp only [freshAll] at hb
    cases hg : st.fresh j with
    | false => rw [hg] at hb; cases hb
    | true =>
      rw [hg] at hb
      rcases List.mem_cons.1 hi with rfl | hi
      · exact hg
      · exact freshAll_spec hb i hi
def nodupB : List Nat → Bool
  | [] => true
  | i :: l => match l.contains i with
    | true => false
    | false => nodupB l
theorem nodupB_spec : ∀ {l : List Nat}, nodupB l = true → l.Nodup
  | [], _ => List.nodup_nil
  | i :: l, h => by
    simp only [nodupB] at h
    cases hc : l.contains i with
    | true => rw [hc] at h; cases h
    | false => rw [hc] at h; exact List.nodup_cons.2 ⟨by simpa using hc, nodupB_spec h⟩
theorem fresh_parts {st : St} {id : Nat} (h : st.fresh id = true) : freshT id st.tm = true ∧ freshH id st.hp = true := by
  unfold St.fresh at h
  cases hf : freshT id st.tm with
  | true => rw [hf] at h; exact ⟨rfl, h⟩
  | false => rw [hf] at h; cases h
theorem inj_of_nodup {ρ : Nat → Nat} : ∀ {l : List Nat}, (l.map ρ).Nodup → ∀ i ∈ l, ∀ j ∈ l, ρ i = ρ j → i = j
  | [], _, _, h, _, _, _ => by cases h
  | k :: l, hn, i, hi, j, hj, e => by
    rw [List.map_cons, List.nodup_cons] at hn
    rcases List.mem_cons.1 hi with rfl | hi
    · rcases List.mem_cons.1 hj with rfl | hj
      · rfl
      · exact absurd (List.mem_map.2 ⟨j, hj, e.symm⟩) hn.1
    · rcases List.mem_cons.1 hj with hj' | hj
      · rw [hj'] at e; exact absurd (List.mem_map.2 ⟨i, hi, e⟩) hn.1
      · exact inj_of_nodup hn.2 i hi j hj e

theorem dropTs_get : ∀ (ids : List Nat) (tm : List (Nat × AV)) (i : Nat) (av : AV), get (dropTs ids tm) i = some av → (∃ a0, get tm i = some a0 ∧ (av = a0 ∨ av = .junk)) ∧ ∀ j ∈ ids, av.names j = false
  | [], tm, i, av, h => ⟨⟨av, h, .inl rfl⟩, by simp⟩
  | k :: ids, tm, i, av, h => by
    obtain ⟨⟨a0, h1, h2⟩, h3⟩ := dropTs_get ids (dropT k tm) i av h
    rw [get_dropT] at h1
    obtain ⟨a1, h4, rfl⟩ := Option.map_eq_some_iff.1 h1
    refine ⟨⟨a1, h4, ?_⟩, fun j hj => ?_⟩
    · rcases h2 with rfl | rfl
      · unfold AV.drop; split
        · exact .inr rfl
        · exact .inl rfl
      · exact .inr rfl
    · rcases List.mem_cons.1 hj with rfl | hj
      · rcases h2 with rfl | rfl
        · exact AV.drop_names j a1
        · rfl
      · exact h3 j hj
theorem get_dropHs : ∀ (ids : List Nat) (hp : List (Nat × Res)) (i : Nat) (r : Res), get (dropHs ids hp) i = some r → ∃ r0, get hp i = some r0 ∧ (∀ j ∈ ids, r.names j = false) ∧
    (∀ {η S w hd F}, RRes η S w hd F r0 → RRes η S w hd F r) ∧ ∀ j, r.names j = true → r0.names j = true
  | [], hp, i, r, h => ⟨r, h, by simp, fun h => h, fun _ h => h⟩
  | k :: ids, hp, i, r, h => by
    obtain ⟨r1, h1, h2, h3, h5⟩ := get_dropHs ids (dropH k hp) i r h
    rw [get_dropH] at h1
    obtain ⟨r0, h4, rfl⟩ := Option.map_eq_some_iff.1 h1
    have key : ∀ (l : List AV) j, AV.namesL j (dropL k l) = true → AV.namesL j l = true := by
      intro l j
      induction l with
      | nil => intro h; exact h
      | cons a l ih =>
        intro h
        simp only [dropL, AV.namesL, Bool.or_eq_true] at h ⊢
        rcases h with h | h
        · left; unfold AV.drop at h; split at h
          · simp [AV.names] at h
          · exact h
        · exact .inr (ih h)
    refine ⟨r0, h4, fun j hj => ?_, fun {η S w hd F} hR => h3 ?_, fun j hj => ?_⟩
    · rcases List.mem_cons.1 hj with rfl | hj
      · cases hn : r.names j with
        | false => rfl
        | true => have := h5 j hn; rw [Res.drop_names] at this; cases this
      · exact h2 j hj
    · cases r0 with
      | box ty cs =>
        obtain ⟨b, arr, e1, e2, e3, e4⟩ := hR
        exact ⟨b, arr, e1, e2, e3, aRelL_drop k cs _ e4⟩
      | vec ty rs rows => exact hR
      | cust C => exact hR
    · have := h5 j hj
      cases r0 with
      | box ty cs => exact key cs j this
      | vec ty rs rows => exact this
      | cust C => exact this

/-- The values of names behind a call: those handed back by the callee, the others as they were. -/
def pickN {β : Type} (ρ : Nat → Nat) (hos : List Nat) (f' f : Nat → β) (j : Nat) : β := match get (hos.map fun i => (ρ i, i)) j with
  | some i => f' i
  | none => f j
theorem get_inv {ρ : Nat → Nat} : ∀ {hos : List Nat}, (∀ i ∈ hos, ∀ j ∈ hos, ρ i = ρ j → i = j) → ∀ i ∈ hos, get (hos.map fun i => (ρ i, i)) (ρ i) = some i
  | [], _, _, h => by cases h
  | k :: hos, hinj, i, hi => by
    rw [List.map_cons, get_cons]
    split
    · next e => rw [hinj k (by simp) i hi e]
    · next e =>
      rcases List.mem_cons.1 hi with rfl | hi
      · exact absurd rfl e
      · exact get_inv (fun a ha b hb => hinj a (by simp [ha]) b (by simp [hb])) i hi
theorem get_inv_mem {ρ : Nat → Nat} : ∀ {hos : List Nat} (j i : Nat), get (hos.map fun i => (ρ i, i)) j = some i → i ∈ hos ∧ ρ i = j
  | [], _, _, h => by cases h
  | k :: hos, j, i, h => by
    rw [List.map_cons, get_cons] at h
    split at h
    · next e => obtain rfl := Option.some.inj h; exact ⟨by simp, e⟩
    · obtain ⟨h1, h2⟩ := get_inv_mem j i h; exact ⟨by simp [h1], h2⟩
theorem get_inv_none {ρ : Nat → Nat} {hos : List Nat} {j : Nat} (h : ∀ i ∈ hos, ρ i ≠ j) : get (hos.map fun i => (ρ i, i)) j = none := by
  cases hg : get (hos.map fun i => (ρ i, i)) j with
  | none => rfl
  | some i => obtain ⟨h1, h2⟩ := get_inv_mem j i hg; exact absurd h2 (h i h1)
theorem mem_of_get {α : Type} : ∀ {l : List (Nat × α)} {i : Nat} {x : α}, get l i = some x → (i, x) ∈ l
  | [], _, _, h => by cases h
  | (j, y) :: l, i, x, h => by
    rw [get_cons] at h
    split at h
    · next e => subst e; obtain rfl := Option.some.inj h; simp
    · simp [mem_of_get h]
theorem get_of_mem {α : Type} : ∀ {l : List (Nat × α)}, (l.map (·.1)).Nodup → ∀ {i : Nat} {x : α}, (i, x) ∈ l → get l i = some x
  | [], _, _, _, h => by cases h
  | (j, y) :: l, hn, i, x, h => by
    rw [List.map_cons, List.nodup_cons] at hn
    rw [get_cons]
    rcases List.mem_cons.1 h with h | h
    · simp only [Prod.mk.injEq] at h; obtain ⟨rfl, rfl⟩ := h; rw [if_pos rfl]
    · rw [if_neg (fun e => hn.1 (by rw [e]; exact List.mem_map.2 ⟨(i, x), h, rfl⟩))]; exact get_of_mem hn.2 h

section
variable {P : Program} {fr : Fr} {st : St}

/-- Behind a call: what was handed in is gone, what is handed back is there; what named a handle that may have turned is forgotten. -/
def St.behindCall (st : St) (ρ : Nat → Nat) (his _hos kp : List Nat) (ho : List (Nat × Res)) : St :=
  ⟨dropTs ((his.filter fun i => !kp.contains i).map ρ) st.tm, rnH ρ ho ++ dropHs ((his.filter fun i => !kp.contains i).map ρ) (remH (his.map ρ) st.hp)⟩

/-- The blocks of things that a call is not handed. -/
def St.Oth (st : St) (φ : Nat → List Nat) (ids : List Nat) (k : Nat) : Prop := ∃ j r, get st.hp j = some r ∧ j ∉ ids ∧ k ∈ φ j

theorem RepE.called {η : Nat → Value} {φ : Nat → List Nat} {a : Act} {w w' : World} (hr : RepE fr η φ st a w) {ρ : Nat → Nat} {hi ho : List (Nat × Res)} {his hos kp : List Nat}
    (hhis : hi.map (·.1) = his) (hhos : ho.map (·.1) = hos) (hh : HasH st.hp ρ hi) (hnd : nodupB ((his ++ hos.filter fun i => !his.contains i).map ρ) = true)
    (hnh : nodupB hos = true) (hni : nodupB his = true)
    (hfr : freshAll st ((hos.filter fun i => !his.contains i).map ρ) = true)
    (hpin : noneB fr.pin (((his.filter fun i => !kp.contains i) ++ hos.filter fun i => !his.contains i).map ρ) = true)
    (hin : inBH hos ho = true)
    {η' : Nat → Value} {φ' : Nat → List Nat} (hok : HpOk η' φ' ho w') (hkp : ∀ i, i ∈ kp → η' i = η (ρ i))
    (hblk : ∀ i r k, get ho i = some r → k ∈ φ' i → SOf (fun i => φ (ρ i)) hi k ∨ w.heap.size ≤ k) (hkeep : Keep (SOf (fun i => φ (ρ i)) hi) w w')
    (hRes : ∀ i r, get ho i = some r → RRes η' (fun k => SOf φ' ho k ∨ st.Oth φ (his.map ρ) k) w' (η' i) (φ' i) r) :
    RepE fr (pickN ρ hos η' η) (pickN ρ hos φ' φ) (st.behindCall ρ his hos kp ho) a w' ∧ (∀ r : AV, r.inB hos = true → ∀ u, ARel η' (fun k => SOf φ' ho k ∨ st.Oth φ (his.map ρ) k) w' r u → ARel (pickN ρ hos η' η) (SOf (pickN ρ hos φ' φ) (st.behindCall ρ his hos kp ho).hp) w' (r.rnm ρ) u) := by
  have hinjAll := inj_of_nodup (nodupB_spec hnd)
  have memAll : ∀ i, i ∈ his ∨ i ∈ hos → i ∈ his ++ hos.filter fun i => !his.contains i := by
    intro i h
    rw [List.mem_append, List.mem_filter]
    by_cases hi' : i ∈ his
    · exact .inl hi'
    · rcases h with h | h
      · exact .inl h
      · exact .inr ⟨h, by simpa using hi'⟩
  have hinj : ∀ i, i ∈ his ∨ i ∈ hos → ∀ j, j ∈ his ∨ j ∈ hos → ρ i = ρ j → i = j := fun i h j h' => hinjAll i (memAll i h) j (memAll j h')
  have hinv : ∀ i ∈ hos, get (hos.map fun i => (ρ i, i)) (ρ i) = some i := get_inv (fun i h j h' => hinj i (.inr h) j (.inr h'))
  have pk : ∀ {β : Type} (f' f : Nat → β) (i : Nat), i ∈ hos → pickN ρ hos f' f (ρ i) = f' i := by
    intro β f' f i h; unfold pickN; rw [hinv i h]
  have pn : ∀ {β : Type} (f' f : Nat → β) (j : Nat), (∀ i ∈ hos, ρ i ≠ j) → pickN ρ hos f' f j = f j := by
    intro β f' f j h; unfold pickN; rw [get_inv_none h]
  -- what was handed in
  have hiGet : ∀ i, i ∈ his → ∃ r, get hi i = some r := by
    intro i h
    rw [← hhis] at h
    obtain ⟨⟨j, r⟩, hm, rfl⟩ := List.mem_map.1 h
    exact ⟨r, get_of_mem (by rw [hhis]; exact nodupB_spec hni) hm⟩
  have hoGet : ∀ i, i ∈ hos → ∃ r, get ho i = some r := by
    intro i h
    rw [← hhos] at h
    obtain ⟨⟨j, r⟩, hm, rfl⟩ := List.mem_map.1 h
    exact ⟨r, get_of_mem (by rw [hhos]; exact nodupB_spec hnh) hm⟩
  have hoMem : ∀ i r, get ho i = some r → i ∈ hos := fun i r h => by rw [← hhos]; exact List.mem_map.2 ⟨(i, r), mem_of_get h, rfl⟩
  have hiMem : ∀ i r, get hi i = some r → i ∈ his := fun i r h => by rw [← hhis]; exact List.mem_map.2 ⟨(i, r), mem_of_get h, rfl⟩
  have hSi : ∀ k, SOf (fun i => φ (ρ i)) hi k → SOf φ st.hp k := by
    rintro k ⟨i, r, hg, hm⟩; exact ⟨ρ i, _, hh.spec i r hg, hm⟩
  have hSame : Same (SOf φ st.hp) w w' := ⟨hkeep.size, fun k hk hn => hkeep.block k hk (fun h => hn (hSi k h))⟩
  have fresh_names : ∀ i ∈ hos, i ∉ his → ∀ j av, get st.tm j = some av → av.names (ρ i) = false := by
    intro i h1 h2 j av hg
    have := freshAll_spec hfr (ρ i) (List.mem_map.2 ⟨i, List.mem_filter.2 ⟨h1, by simpa using h2⟩, rfl⟩)
    exact freshT_spec (fresh_parts this).1 j av hg
  have fresh_hp : ∀ i ∈ hos, i ∉ his → get st.hp (ρ i) = none ∧ ∀ j r, get st.hp j = some r → r.names (ρ i) = false := by
    intro i h1 h2
    have := freshAll_spec hfr (ρ i) (List.mem_map.2 ⟨i, List.mem_filter.2 ⟨h1, by simpa using h2⟩, rfl⟩)
    exact freshH_spec (fresh_parts this).2
  -- the state's things
  have hpGet : ∀ j r, get (st.behindCall ρ his hos kp ho).hp j = some r →
      (∃ i r0, i ∈ hos ∧ get ho i = some r0 ∧ r = r0.rnm ρ ∧ j = ρ i) ∨
      ((∀ i ∈ hos, ρ i ≠ j) ∧ (∀ i ∈ his, ρ i ≠ j) ∧ ∃ r0, get st.hp j = some r0 ∧ (∀ i ∈ his, i ∉ kp → r.names (ρ i) = false) ∧ (∀ {η S w hd F}, RRes η S w hd F r0 → RRes η S w hd F r) ∧ ∀ j, r.names j = true → r0.names j = true) := by
    intro j r h
    simp only [St.behindCall, get_append] at h
    cases h0 : get (rnH ρ ho) j with
    | some r1 =>
      rw [h0] at h
      simp only [Option.some_or, Option.some.injEq] at h; subst h
      obtain ⟨i, r0, e1, e2, e3⟩ := get_rnH ho j r1 h0
      exact .inl ⟨i, r0, by rw [← hhos]; exact List.mem_map.2 ⟨(i, r0), e3, rfl⟩, get_of_mem (by rw [hhos]; exact nodupB_spec hnh) e3, e1, e2⟩
    | none =>
      rw [h0] at h
      simp only [Option.none_or] at h
      obtain ⟨r0, h1, h2, h3, h4⟩ := get_dropHs _ _ j r h
      rw [get_remH] at h1
      split at h1
      · cases h1
      · next hni' =>
        have hnhis : ∀ i ∈ his, ρ i ≠ j := fun i hi' e => hni' (List.mem_map.2 ⟨i, hi', e⟩)
        refine .inr ⟨?_, hnhis, r0, h1, ?_, h3, h4⟩
        · intro i hi' e
          by_cases hh' : i ∈ his
          · exact hnhis i hh' e
          · have := (fresh_hp i hi' hh').1; rw [e, h1] at this; cases this
        · intro i hi' hk
          exact h2 (ρ i) (List.mem_map.2 ⟨i, List.mem_filter.2 ⟨hi', by simpa using hk⟩, rfl⟩)
  have hS : ∀ k, k < w.heap.size → SOf (pickN ρ hos φ' φ) (st.behindCall ρ his hos kp ho).hp k → SOf φ st.hp k := by
    rintro k hk ⟨j, r, hg, hm⟩
    rcases hpGet j r hg with ⟨i, r0, h1, h2, _, rfl⟩ | ⟨h1, _, r0, h2, _⟩
    · rw [pk φ' φ i h1] at hm
      rcases hblk i r0 k h2 hm with h | h
      · exact hSi k h
      · omega
    · rw [pn φ' φ j h1] at hm; exact ⟨j, r0, h2, hm⟩
  -- names that stay
  have stay : ∀ j, (∀ i ∈ hos, i ∉ his → ρ i ≠ j) → (∀ i ∈ his, i ∉ kp → ρ i ≠ j) → pickN ρ hos η' η j = η j := by
    intro j h1 h2
    by_cases hx : ∃ i ∈ hos, ρ i = j
    · obtain ⟨i, hi', rfl⟩ := hx
      rw [pk η' η i hi']
      by_cases hh' : i ∈ his
      · by_cases hk : i ∈ kp
        · exact hkp i hk
        · exact absurd rfl (h2 i hh' hk)
      · exact absurd rfl (h1 i hi' hh')
    · exact pn η' η j (fun i hi' e => hx ⟨i, hi', e⟩)
  have hS2 : ∀ k, SOf (pickN ρ hos φ' φ) (st.behindCall ρ his hos kp ho).hp k → SOf φ' ho k ∨ st.Oth φ (his.map ρ) k := by
    rintro k ⟨j, r, hg, hm⟩
    rcases hpGet j r hg with ⟨i, r0, h1, h2, _, rfl⟩ | ⟨h1, h3, r0, h2, _⟩
    · rw [pk φ' φ i h1] at hm; exact .inl ⟨i, r0, h2, hm⟩
    · rw [pn φ' φ j h1] at hm
      exact .inr ⟨j, r0, h2, fun h => by obtain ⟨i, h4, h5⟩ := List.mem_map.1 h; exact h3 i h4 h5, hm⟩
  -- blocks of the others are not among those of the call
  have apart : ∀ j r0 k, get st.hp j = some r0 → (∀ i ∈ his, ρ i ≠ j) → k ∈ φ j → ¬ SOf (fun i => φ (ρ i)) hi k := by
    rintro j r0 k hg hj hk ⟨i, r, hg', hm⟩
    exact hj i (hiMem i r hg') (hr.disj _ _ _ _ k (hh.spec i r hg') hg hm hk)
  have hw' : Same (fun k => SOf φ' ho k ∨ st.Oth φ (his.map ρ) k) w' w' := ⟨Nat.le_refl _, fun _ _ _ => rfl⟩
  have hinH := inBH_spec hin
  refine ⟨⟨hr.defers, hr.size, ?_, ?_, ?_, ?_, ?_, ?_, ?_⟩, ?_⟩
  · intro i av hg
    obtain ⟨⟨a0, h1, h2⟩, h3⟩ := dropTs_get _ _ i av hg
    obtain ⟨u, h4, h5⟩ := hr.slots i a0 h1
    rcases h2 with rfl | rfl
    · refine ⟨u, h4, ARel.mono hSame hS av u (fun j hj => stay j ?_ ?_) h5⟩
      · intro i' h6 h7 e; subst e; rw [fresh_names i' h6 h7 i av h1] at hj; cases hj
      · intro i' h6 h7 e; subst e; rw [h3 (ρ i') (List.mem_map.2 ⟨i', List.mem_filter.2 ⟨h6, by simpa using h7⟩, rfl⟩)] at hj; cases hj
    · exact ⟨u, h4, by simp only [ARel]⟩
  · intro j r hg
    rcases hpGet j r hg with ⟨i, r0, h1, h2, rfl, rfl⟩ | ⟨h1, h3, r0, h2, h4, h5, h6⟩
    · rw [pk φ' φ i h1, pk η' η i h1]
      refine (RRes.rnm r0).1 (RRes.mono hw' (fun k _ h => hS2 k h) (fun _ _ => rfl) r0 (fun i' hi' => ?_) (hRes i r0 h2))
      exact pk η' η i' ((hinH i r0 h2).2 i' hi')
    · rw [pn φ' φ j h1, pn η' η j h1]
      refine RRes.mono hSame hS (fun k hk => hkeep.block k (hr.lt j r0 k h2 hk) (apart j r0 k h2 h3 hk)) r (fun j' hj' => stay j' ?_ ?_) (h5 (hr.res j r0 h2))
      · intro i' h7 h8 e; subst e; have h9 := h6 _ hj'; rw [(fresh_hp i' h7 h8).2 j r0 h2] at h9; cases h9
      · intro i' h7 h8 e; subst e; rw [h4 i' h7 h8] at hj'; cases hj'
  · intro j j' r r' k h1 h2 h3 h4
    rcases hpGet j r h1 with ⟨i, r0, e1, e2, _, rfl⟩ | ⟨e1, e2, r0, e3, _⟩
    · rw [pk φ' φ i e1] at h3
      rcases hpGet j' r' h2 with ⟨i', r0', f1, f2, _, rfl⟩ | ⟨f1, f2, r0', f3, _⟩
      · rw [pk φ' φ i' f1] at h4
        rw [hok.disj i i' r0 r0' k e2 f2 h3 h4]
      · rw [pn φ' φ j' f1] at h4
        rcases hblk i r0 k e2 h3 with h | h
        · exact absurd h (apart j' r0' k f3 f2 h4)
        · have := hr.lt j' r0' k f3 h4; omega
    · rw [pn φ' φ j e1] at h3
      rcases hpGet j' r' h2 with ⟨i', r0', f1, f2, _, rfl⟩ | ⟨f1, f2, r0', f3, _⟩
      · rw [pk φ' φ i' f1] at h4
        rcases hblk i' r0' k f2 h4 with h | h
        · exact absurd h (apart j r0 k e3 e2 h3)
        · have := hr.lt j r0 k e3 h3; omega
      · rw [pn φ' φ j' f1] at h4
        exact hr.disj j j' r0 r0' k e3 f3 h3 h4
  · intro j r k h1 h3
    rcases hpGet j r h1 with ⟨i, r0, e1, e2, _, rfl⟩ | ⟨e1, e2, r0, e3, _⟩
    · rw [pk φ' φ i e1] at h3
      rcases hblk i r0 k e2 h3 with ⟨i', r1, h4, h5⟩ | h
      · exact hr.low (ρ i') _ k (hh.spec i' r1 h4) h5
      · exact .inl (Nat.le_trans hr.keep.size h)
    · rw [pn φ' φ j e1] at h3; exact hr.low j r0 k e3 h3
  · intro j r k h1 h3
    rcases hpGet j r h1 with ⟨i, r0, e1, e2, _, rfl⟩ | ⟨e1, e2, r0, e3, _⟩
    · rw [pk φ' φ i e1] at h3; exact hok.lt i r0 k e2 h3
    · rw [pn φ' φ j e1] at h3; exact Nat.lt_of_lt_of_le (hr.lt j r0 k e3 h3) hkeep.size
  · refine ⟨hkeep.os.trans hr.keep.os, hkeep.tape.trans hr.keep.tape, hkeep.output.trans hr.keep.output, Nat.le_trans hr.keep.size hkeep.size, fun k hk hs => ?_⟩
    refine (hkeep.block k (Nat.lt_of_lt_of_le hk hr.keep.size) ?_).trans (hr.keep.block k hk hs)
    rintro ⟨i, r, hg, hm⟩
    rcases hr.low (ρ i) _ k (hh.spec i r hg) hm with h | h
    · omega
    · exact hs h
  · intro i v hi'
    rw [stay i ?_ ?_]
    · exact hr.pin i v hi'
    · intro i' h1 h2 e; subst e
      have := noneB_spec hpin (ρ i') (List.mem_map.2 ⟨i', List.mem_append.2 (.inr (List.mem_filter.2 ⟨h1, by simpa using h2⟩)), rfl⟩)
      rw [this] at hi'; cases hi'
    · intro i' h1 h2 e; subst e
      have := noneB_spec hpin (ρ i') (List.mem_map.2 ⟨i', List.mem_append.2 (.inl (List.mem_filter.2 ⟨h1, by simpa using h2⟩)), rfl⟩)
      rw [this] at hi'; cases hi'
  · intro r hrin u hu
    refine (ARel.rnm r u).1 (ARel.mono hw' (fun k _ h => hS2 k h) r u (fun i' hi' => ?_) hu)
    exact pk η' η i' (AV.inB_spec r hrin hi')

/-! What a contract says beside the things that a call is handed: blocks that are not to be touched. -/
def extC (w0 : World) (F0 : List Nat) : Cust where
  R := fun _ w hd F => hd = .pointer none ∧ F = F0 ∧ ∀ k ∈ F, w.heap[k]? = w0.heap[k]?
  view := none
  mono := fun _ _ hF ⟨h1, h2, h3⟩ => ⟨h1, h2, fun k hk => (hF k hk).trans (h3 k hk)⟩
  shape := fun ⟨h1, _⟩ => .inl ⟨_, h1⟩
  ok := fun h => by cases h

/-- A contract of that kind, whatever other blocks there are. -/
def FnE {α : Type} (P : Program) (f : FuncId) (args : List AV) (hi : List (Nat × Res)) (kp : List Nat) (R : α → Prop) (r : α → AV) (ho : α → List (Nat × Res)) : Prop :=
  ∀ w0 F0, FnX P f args ((900, .cust (extC w0 F0)) :: hi) kp R r (fun x => (900, .cust (extC w0 F0)) :: ho x)
end
end Go.V
/- The calculus' rules: the call of such a function, and the proof of such a contract. -/
namespace Go.V
open Go Go.RowKit

/-! Things without addresses. -/
def Res.Flat : Res → Prop
  | .box _ cs => AV.FlatL cs
  | .vec _ _ rows => ∀ r ∈ rows, PV.FlatL r
  | .cust C => ∀ (S S' : Nat → Prop) (w : World) (hd : Value) (F : List Nat), C.R S w hd F → C.R S' w hd F
def FlatH : List (Nat × Res) → Prop
  | [] => True
  | (_, r) :: l => r.Flat ∧ FlatH l
theorem FlatH.spec : ∀ {l : List (Nat × Res)}, FlatH l → ∀ i r, get l i = some r → r.Flat
  | [], _, _, _, h => by cases h
  | (j, r0) :: l, hf, i, r, h => by
    rw [get_cons] at h
    split at h
    · obtain rfl := Option.some.inj h; exact hf.1
    · exact hf.2.spec i r h
mutual
theorem ARel.flat {η : Nat → Value} {S S' : Nat → Prop} {w : World} : ∀ (a : AV) (u : Value), a.Flat → ARel η S w a u → ARel η S' w a u
  | .p x, u, hf, h => by simp only [ARel, AV.Flat] at h hf ⊢; exact Rel.flat x u hf h
  | .h i, u, _, h => by simpa only [ARel] using h
  | .el i rs row off, u, _, h => by simpa only [ARel] using h
  | .agg cs, u, hf, h => by
    simp only [ARel, AV.Flat] at h hf ⊢
    obtain ⟨us, h1, h2⟩ := h
    exact ⟨us, h1, ARelL.flat cs us.toList hf h2⟩
  | .tup cs, u, hf, h => by
    simp only [ARel, AV.Flat] at h hf ⊢
    obtain ⟨us, h1, h2⟩ := h
    exact ⟨us, h1, ARelL.flat cs us.toList hf h2⟩
  | .clo f cs, u, hf, h => by
    simp only [ARel, AV.Flat] at h hf ⊢
    obtain ⟨us, h1, h2⟩ := h
    exact ⟨us, h1, ARelL.flat cs us.toList hf h2⟩
  | .junk, _, _, _ => by simp only [ARel]
theorem ARelL.flat {η : Nat → Value} {S S' : Nat → Prop} {w : World} : ∀ (cs : List AV) (us : List Value), AV.FlatL cs → ARelL η S w cs us → ARelL η S' w cs us
  | [], _, _, h => by simpa only [ARelL] using h
  | c :: cs, us, hf, h => by
    simp only [ARelL, AV.FlatL] at h hf ⊢
    obtain ⟨u, us', h1, h2, h3⟩ := h
    exact ⟨u, us', h1, ARel.flat c u hf.1 h2, ARelL.flat cs us' hf.2 h3⟩
end
theorem RRes.flat {η : Nat → Value} {S S' : Nat → Prop} {w : World} {hd : Value} {F : List Nat} {r : Res} (hf : r.Flat) (h : RRes η S w hd F r) : RRes η S' w hd F r := by
  cases r with
  | box ty cs =>
    obtain ⟨b, arr, h1, h2, h3, h4⟩ := h
    exact ⟨b, arr, h1, h2, h3, ARelL.flat cs _ hf h4⟩
  | vec ty rs rows => exact vec_flat hf h
  | cust C => exact hf _ _ _ _ _ h

def sg (σ : List Nat) (i : Nat) : Nat := match Nat.beq i 900 with
  | true => 900
  | false => rn σ i

section
variable {P : Program} {fr : Fr} {st : St}

theorem names_in {l : List Nat} {a : AV} (h : a.inB l = true) (hn : l.contains 900 = false) : a.names 900 = false := by
  cases hc : a.names 900 with
  | false => rfl
  | true => have := AV.inB_spec a h hc; simp_all

/-- What a contract of that kind says at a call. -/
theorem FnE.use {α : Type} {f : FuncId} {cargs : List AV} {hi : List (Nat × Res)} {kp : List Nat} {R : α → Prop} {r : α → AV} {ho : α → List (Nat × Res)} (hp : FnE P f cargs hi kp R r ho)
    {η : Nat → Value} {φ : Nat → List Nat} {a : Act} {w : World} (hr : RepE fr η φ st a w) {ρ : Nat → Nat} {his hos : List Nat} (hhis : hi.map (·.1) = his) (hhos : ∀ x, (ho x).map (·.1) = hos) (hh : HasH st.hp ρ hi) 
    (hnd : nodupB (his.map ρ) = true) (h9 : his.contains 900 = false) (h9o : hos.contains 900 = false) (hini : inBH his hi = true) (hinc : AV.inBL his cargs = true) (hkp : kp.contains 900 = false) (F0 : List Nat) (hF0 : ∀ k ∈ F0, st.Oth φ (his.map ρ) k) {us : List Value}
    (hargs : ARelL (fun i => η (ρ i)) (fun k => SOf (fun i => φ (ρ i)) hi k ∨ k ∈ F0) w cargs us) :
    Calls P f us.toArray w fun e w' => ∃ x, R x ∧ ∃ u η' φ', e = .returned u ∧ HpOk η' φ' (ho x) w' ∧ ARel η' (fun k => SOf φ' (ho x) k ∨ k ∈ F0) w' (r x) u ∧
      (∀ i q, get (ho x) i = some q → RRes η' (fun k => SOf φ' (ho x) k ∨ k ∈ F0) w' (η' i) (φ' i) q) ∧ (∀ i, i ∈ kp → η' i = η (ρ i)) ∧
      (∀ i q k, get (ho x) i = some q → k ∈ φ' i → SOf (fun i => φ (ρ i)) hi k ∨ w.heap.size ≤ k) ∧ Keep (SOf (fun i => φ (ρ i)) hi) w w' := by
  have hinj := inj_of_nodup (nodupB_spec hnd)
  have hiMem : ∀ i q, get hi i = some q → i ∈ his := fun i q h => by rw [← hhis]; exact List.mem_map.2 ⟨(i, q), mem_of_get h, rfl⟩
  have n9 : ∀ i ∈ his, i ≠ 900 := fun i h e => by subst e; simp_all
  have hg9 : get hi 900 = none := by
    cases hg : get hi 900 with
    | none => rfl
    | some q => exact absurd rfl (n9 900 (hiMem _ _ hg))
  have hiniS := inBH_spec hini
  -- the set of the call
  have hSc : ∀ k, SOf (upd (fun i => φ (ρ i)) 900 F0) ((900, .cust (extC w F0)) :: hi) k → SOf (fun i => φ (ρ i)) hi k ∨ k ∈ F0 := by
    rintro k ⟨i, q, hg, hm⟩
    rw [get_cons] at hg
    split at hg
    · next e => subst e; rw [upd_self] at hm; exact .inr hm
    · next e => rw [upd_ne _ _ (fun h => e h.symm)] at hm; exact .inl ⟨i, q, hg, hm⟩
  have hSall : ∀ k, SOf (fun i => φ (ρ i)) hi k ∨ k ∈ F0 → SOf φ st.hp k := by
    rintro k (⟨i, q, hg, hm⟩ | h)
    · exact ⟨ρ i, _, hh.spec i q hg, hm⟩
    · obtain ⟨j, q, h1, _, h2⟩ := hF0 k h; exact ⟨j, q, h1, h2⟩
  have hw : ∀ {S}, Same S w w := ⟨Nat.le_refl _, fun _ _ _ => rfl⟩
  have hcall := hp w F0 (upd (fun i => η (ρ i)) 900 (.pointer none)) (upd (fun i => φ (ρ i)) 900 F0) w us ⟨?_, ?_, ?_⟩ ?_
  · refine hcall.mono fun e w' ⟨x, hR, u, η', φ', e1, hok, hrel, hkeepη, hblk, hkeep⟩ => ?_
    have hoMem : ∀ i q, get (ho x) i = some q → i ∈ hos := fun i q h => by rw [← hhos x]; exact List.mem_map.2 ⟨(i, q), mem_of_get h, rfl⟩
    have n9o : ∀ i q, get (ho x) i = some q → i ≠ 900 := fun i q h e => by have := hoMem i q h; subst e; simp_all
    have hgo : ∀ i q, get (ho x) i = some q → get ((900, Res.cust (extC w F0)) :: ho x) i = some q := fun i q h => by rw [get_cons, if_neg (fun e => n9o i q h e.symm)]; exact h
    obtain ⟨_, hφ9, hblk9⟩ := hok.res 900 (.cust (extC w F0)) (by rw [get_cons, if_pos rfl])
    have hS' : ∀ k, SOf φ' (ho x) k ∨ k ∈ F0 → SOf φ' ((900, .cust (extC w F0)) :: ho x) k := by
      rintro k (⟨i, q, hg, hm⟩ | h)
      · exact ⟨i, q, hgo i q hg, hm⟩
      · exact ⟨900, _, by rw [get_cons, if_pos rfl], by rw [hφ9]; exact h⟩
    have hw' : ∀ {S}, Same S w' w' := ⟨Nat.le_refl _, fun _ _ _ => rfl⟩
    refine ⟨x, hR, u, η', φ', e1, ⟨?_, ?_, ?_⟩, ?_, ?_, ?_, ?_, ?_⟩
    · intro i q hg
      exact RRes.mono hw' (fun k _ h => hS' k (.inl h)) (fun _ _ => rfl) q (fun _ _ => rfl) (hok.res i q (hgo i q hg))
    · intro i j q q' k h1 h2; exact hok.disj i j q q' k (hgo i q h1) (hgo j q' h2)
    · intro i q k h1; exact hok.lt i q k (hgo i q h1)
    · exact ARel.mono hw' (fun k _ h => hS' k h) _ _ (fun _ _ => rfl) hrel
    · intro i q hg
      exact RRes.mono hw' (fun k _ h => hS' k h) (fun _ _ => rfl) q (fun _ _ => rfl) (hok.res i q (hgo i q hg))
    · intro i hi'
      rw [hkeepη i hi', upd_ne _ _ (fun e => by subst e; simp_all)]
    · intro i q k hg hm
      rcases hblk i q k (hgo i q hg) hm with h | h
      · rcases hSc k h with h | h
        · exact .inl h
        · exfalso
          exact n9o i q hg (hok.disj i 900 q _ k (hgo i q hg) (by rw [get_cons, if_pos rfl]) hm (by rw [hφ9]; exact h))
      · exact .inr h
    · refine ⟨hkeep.os, hkeep.tape, hkeep.output, hkeep.size, fun k hk hs => ?_⟩
      by_cases hkF : k ∈ F0
      · exact hblk9 k (by rw [hφ9]; exact hkF)
      · refine hkeep.block k hk (fun h => ?_)
        rcases hSc k h with h | h
        · exact hs h
        · exact hkF h
  · intro i q hg
    rw [get_cons] at hg
    split at hg
    · next e =>
      subst e; obtain rfl := Option.some.inj hg
      rw [upd_self, upd_self]
      exact ⟨rfl, rfl, fun _ _ => rfl⟩
    · next e =>
      rw [upd_ne _ _ (fun h => e h.symm), upd_ne _ _ (fun h => e h.symm)]
      have h1 := hr.res (ρ i) _ (hh.spec i q hg)
      have h2 := (RRes.rnm (η := η) (ρ := ρ) q).2 h1
      refine RRes.mono hw (fun k _ h => hSall k (hSc k h)) (fun _ _ => rfl) q (fun j hj => ?_) h2
      exact upd_ne _ _ (n9 j ((hiniS i q hg).2 j hj))
  · intro i j q q' k h1 h2 h3 h4
    rw [get_cons] at h1 h2
    split at h1
    · next e =>
      split at h2
      · next e2 => rw [← e, ← e2]
      · next e2 =>
        subst e
        rw [upd_self] at h3
        rw [upd_ne _ _ (fun h => e2 h.symm)] at h4
        obtain ⟨j', q1, f1, f2, f3⟩ := hF0 k h3
        have := hr.disj _ _ _ _ k f1 (hh.spec j q' h2) f3 h4
        exact absurd (List.mem_map.2 ⟨j, hiMem j q' h2, this.symm⟩) f2
    · next e =>
      rw [upd_ne _ _ (fun h => e h.symm)] at h3
      split at h2
      · next e2 =>
        subst e2
        rw [upd_self] at h4
        obtain ⟨j', q1, f1, f2, f3⟩ := hF0 k h4
        have := hr.disj _ _ _ _ k f1 (hh.spec i q h1) f3 h3
        exact absurd (List.mem_map.2 ⟨i, hiMem i q h1, this.symm⟩) f2
      · next e2 =>
        rw [upd_ne _ _ (fun h => e2 h.symm)] at h4
        exact hinj i (hiMem i q h1) j (hiMem j q' h2) (hr.disj _ _ _ _ k (hh.spec i q h1) (hh.spec j q' h2) h3 h4)
  · intro i q k h1 h3
    rw [get_cons] at h1
    split at h1
    · next e =>
      subst e
      rw [upd_self] at h3
      obtain ⟨j', q1, f1, f2, f3⟩ := hF0 k h3
      exact hr.lt _ _ k f1 f3
    · next e =>
      rw [upd_ne _ _ (fun h => e h.symm)] at h3
      exact hr.lt _ _ k (hh.spec i q h1) h3
  · refine ARelL.mono hw (fun k _ h => hSc k h) _ _ (fun i hi' => ?_) hargs
    exact upd_ne _ _ (n9 i (AV.inBL_spec _ hinc hi'))

variable {ops : Array Oper} {rest : List Oper} {k : List It}
variable {d : Option Nat} {t : TypeId} {pos : String} {aft : Array Edge} {g : Option (Nat × Bool)}

def St.putO (st : St) : Option Nat → AV → St
  | none, _ => st
  | some d, av => st.put d av
def ltO (nt : Nat) : Option Nat → Bool
  | none => true
  | some d => Nat.blt d nt

/-- How what is handed back stands to things of the caller's: 'flat': it holds no address; 'own': none of the caller's things was shown. -/
inductive Mode {α : Type} (st : St) (ρ : Nat → Nat) (hi : List (Nat × Res)) (cargs avs : List AV) (r : α → AV) (ho : α → List (Nat × Res)) : Prop
  | flat : Pass st ρ hi cargs avs → (∀ x, (r x).Flat) → (∀ x, FlatH (ho x)) → Mode st ρ hi cargs avs r ho
  | own : AV.rnmL ρ cargs = avs → Mode st ρ hi cargs avs r ho

theorem mem_map_get {α : Type} : ∀ {l : List (Nat × α)} {j : Nat}, j ∈ l.map (·.1) → ∃ r, get l j = some r
  | [], _, h => by cases h
  | (i, x) :: l, j, h => by
    rw [get_cons]
    by_cases e : i = j
    · rw [if_pos e]; exact ⟨_, rfl⟩
    · rw [if_neg e]
      rw [List.map_cons] at h
      rcases List.mem_cons.1 h with h | h
      · exact absurd h.symm e
      · exact mem_map_get h

/-- A call. -/
theorem AO.callW {α : Type} {x : Operand} {args : List Operand} {argTypes : Array TypeId} {f : FuncId} {cv : AV} {avs caps cargs : List AV} {hi : List (Nat × Res)} {kp : List Nat} {R : α → Prop} {r : α → AV} {ho : α → List (Nat × Res)}
    (hw : ∀ η φ a w, RepE fr η φ st a w → Region.wanted ⟨d, .call { callee := .value x, args := args.toArray, argTypes := argTypes }, t, pos, aft, g⟩ (yielded ops a.tmps) = true)
    (ρ his hos : List Nat) (hx : st.ev x = some cv) (hcv : cv.fn = some (f, caps)) (hf : Enters P f) (ha : st.evL args = some avs) (hp : FnE P f cargs hi kp R r ho) (hmode : Mode st (rn ρ) hi cargs (avs ++ caps) r ho)
    (hhis : hi.map (·.1) = his) (hhos : ∀ x, (ho x).map (·.1) = hos) (hh : HasH st.hp (rn ρ) hi)
    (hb : (nodupB his && nodupB hos && nodupB (his.map (rn ρ)) && nodupB ((his ++ hos.filter fun i => !his.contains i).map (rn ρ)) && freshAll st ((hos.filter fun i => !his.contains i).map (rn ρ))
      && noneB fr.pin (((his.filter fun i => !kp.contains i) ++ hos.filter fun i => !his.contains i).map (rn ρ)) && !his.contains 900 && !hos.contains 900 && inBH his hi && AV.inBL his cargs && !kp.contains 900 && ltO fr.nt d) = true)
    (hino : ∀ x, inBH hos (ho x) = true) (hinr : ∀ x, (r x).inB hos = true)
    (hk : ∀ x, R x → AO P fr ops rest k false ((st.behindCall (rn ρ) his hos kp (ho x)).putO d ((r x).rnm (rn ρ)))) :
    AO P fr ops (⟨d, .call { callee := .value x, args := args.toArray, argTypes := argTypes }, t, pos, aft, g⟩ :: rest) k false st := by
  intro a w ⟨η, φ, hr⟩
  simp only [Bool.and_eq_true, Bool.not_eq_true'] at hb
  obtain ⟨⟨⟨⟨⟨⟨⟨⟨⟨⟨⟨b1, b2⟩, b3⟩, b4⟩, b5⟩, b6⟩, b7⟩, b8⟩, b9⟩, b10⟩, b11⟩, b12⟩ := hb
  obtain ⟨us, e1, e2⟩ := fn_rel hcv (hr.ev hx)
  unfold wpList
  rw [if_pos (by exact hw η φ a w hr)]
  refine .inl ?_
  unfold Oper.wp
  rw [exec_call hf e1]
  simp only [Oper.upon]
  have h1 := aRelL_append _ _ _ _ (evL_rel hr args avs ha) e2
  have hSall : ∀ k, SOf (fun i => φ (rn ρ i)) hi k → SOf φ st.hp k := by
    rintro k ⟨i, q, hg, hm⟩; exact ⟨_, _, hh.spec i q hg, hm⟩
  have hsame : ∀ {S}, Same S w w := ⟨Nat.le_refl _, fun _ _ _ => rfl⟩
  -- the blocks that the call is not to touch, and what follows
  have main : ∀ F0 : List Nat, (∀ k ∈ F0, st.Oth φ (his.map (rn ρ)) k) → ARelL (fun i => η (rn ρ i)) (fun k => SOf (fun i => φ (rn ρ i)) hi k ∨ k ∈ F0) w cargs (args.map a.eval ++ us.toList) →
      (∀ x (η' : Nat → Value) φ' w' i q, get (ho x) i = some q → RRes η' (fun k => SOf φ' (ho x) k ∨ k ∈ F0) w' (η' i) (φ' i) q → RRes η' (fun k => SOf φ' (ho x) k ∨ st.Oth φ (his.map (rn ρ)) k) w' (η' i) (φ' i) q) →
      (∀ x (η' : Nat → Value) φ' w' u, ARel η' (fun k => SOf φ' (ho x) k ∨ k ∈ F0) w' (r x) u → ARel η' (fun k => SOf φ' (ho x) k ∨ st.Oth φ (his.map (rn ρ)) k) w' (r x) u) →
      Calls P f ((args.map a.eval) ++ us.toList).toArray w (fun e w' => ∃ v, e = .returned v ∧ wpList P ops (cont P fr k) rest (a.put d v) w') := by
    intro F0 hF0 hargs hc1 hc2
    refine (FnE.use hp hr hhis hhos hh b3 b7 b8 b9 b10 b11 F0 hF0 hargs).mono fun e w' ⟨x, hR, u, η', φ', g1, g2, g3, g4, g5, g6, g7⟩ => ?_
    refine ⟨u, g1, ?_⟩
    have hcd := hr.called (ρ := rn ρ) (his := his) (hos := hos) (kp := kp) hhis (hhos x) hh b4 b2 b1 b5 b6 (hino x) g2 g5 g6 g7 (fun i q hg => hc1 x η' φ' w' i q hg (g4 i q hg))
    refine hk x hR _ _ ⟨pickN (rn ρ) hos η' η, pickN (rn ρ) hos φ' φ, ?_⟩
    cases d with
    | none => simpa only [St.putO, Act.put] using hcd.1
    | some d => exact hcd.1.put b12 (hcd.2 (r x) (hinr x) u (hc2 x η' φ' w' u g3))
  have fin : ∀ {f args}, Calls P f args w (fun e w' => ∃ v, e = .returned v ∧ wpList P ops (cont P fr k) rest (a.put d v) w') → Calls P f args w (fun e w' => match e, w' with
      | .returned v, w'' => wpList P ops (cont P fr k) rest (a.put d v) w''
      | .panicked chain, w'' => cont P fr k (.panic chain) a w''
      | .outgrown, _ => LetsOut (cont P fr k)) := fun h => h.mono (fun e w' ⟨v, e1, h⟩ => by subst e1; exact h)
  refine fin ?_
  cases hmode with
  | flat hpass hfr hfh =>
    refine main [] (by simp) ?_ (fun x η' φ' w' i q hg h => RRes.flat ((hfh x).spec i q hg) h) (fun x η' φ' w' u h => ARel.flat _ _ (hfr x) h)
    exact ARelL.mono hsame (fun k _ h => by rcases h with h | h; exact h; cases h) _ _ (fun _ _ => rfl) (hpass.rel hh hr _ h1)
  | own hav =>
    have hF : ∀ k, k ∈ ((st.hp.map (·.1)).filter fun j => !(his.map (rn ρ)).contains j).flatMap φ ↔ st.Oth φ (his.map (rn ρ)) k := by
      intro k
      rw [List.mem_flatMap]
      constructor
      · rintro ⟨j, h1, h2⟩
        obtain ⟨h3, h4⟩ := List.mem_filter.1 h1
        obtain ⟨q, hq⟩ := mem_map_get h3
        exact ⟨j, q, hq, by simpa using h4, h2⟩
      · rintro ⟨j, q, h1, h2, h3⟩
        exact ⟨j, List.mem_filter.2 ⟨List.mem_map.2 ⟨(j, q), mem_of_get h1, rfl⟩, by simpa using h2⟩, h3⟩
    refine main (((st.hp.map (·.1)).filter fun j => !(his.map (rn ρ)).contains j).flatMap φ) (fun k hk => (hF k).1 hk) ?_ ?_ ?_
    · rw [← hav] at h1
      refine (ARelL.rnm _ _).2 (ARelL.mono hsame (fun k _ h => ?_) _ _ (fun _ _ => rfl) h1)
      rcases h with h | h
      · exact hSall k h
      · obtain ⟨j, q, h1, _, h2⟩ := (hF k).1 h; exact ⟨j, q, h1, h2⟩
    · intro x η' φ' w' i q hg h
      exact RRes.mono ⟨Nat.le_refl _, fun _ _ _ => rfl⟩ (fun k _ h => h.imp (fun h => h) (fun h => (hF k).2 h)) (fun _ _ => rfl) q (fun _ _ => rfl) h
    · intro x η' φ' w' u h
      exact ARel.mono ⟨Nat.le_refl _, fun _ _ _ => rfl⟩ (fun k _ h => h.imp (fun h => h) (fun h => (hF k).2 h)) _ _ (fun _ _ => rfl) h

theorem wantedG {o : Oper} {j dj : Nat} {c : Bool} (hg : o.guard = some (j, c)) (hj : (ops[j]?).bind (·.dst) = some dj) (hc : get st.tm dj = some (.p (.v (.bool c)))) : ∀ η φ a w, RepE fr η φ st a w → Region.wanted o (yielded ops a.tmps) = true :=
  fun η φ a w hr => by simp [Region.wanted, hg, yielded_of hr hj hc]
theorem wantedN {o : Oper} (hg : o.guard = none) : ∀ η φ a w, RepE fr η φ st a w → Region.wanted o (yielded ops a.tmps) = true := fun _ _ _ _ _ => wanted_none hg _

/-! The proof of such a contract. -/
def XQ {α : Type} (P : Program) (fn : Func) (η : Nat → Value) (φ : Nat → List Nat) (w : World) (hi : List (Nat × Res)) (kp : List Nat) (R : α → Prop) (r : α → AV) (ho : α → List (Nat × Res)) : Exit → Act → World → Prop :=
  bodyPost P fn fun e w' => ∃ x, R x ∧ ∃ u η' φ', e = .returned u ∧ HpOk η' φ' (ho x) w' ∧ ARel η' (SOf φ' (ho x)) w' (r x) u ∧ (∀ i, i ∈ kp → η' i = η i) ∧
      (∀ i q k, get (ho x) i = some q → k ∈ φ' i → SOf φ hi k ∨ w.heap.size ≤ k) ∧ Keep (SOf φ hi) w w'
def pins (η : Nat → Value) : List Nat → List (Nat × Value)
  | [] => []
  | i :: l => (i, η i) :: pins η l
theorem get_pins {η : Nat → Value} : ∀ {l : List Nat} {i : Nat} {v : Value}, get (pins η l) i = some v → v = η i
  | [], _, _, h => by cases h
  | j :: l, i, v, h => by
    simp only [pins, get_cons] at h
    split at h
    · next e => subst e; exact (Option.some.inj h).symm
    · exact get_pins h
theorem get_pins_mem {η : Nat → Value} : ∀ {l : List Nat} {i : Nat}, i ∈ l → get (pins η l) i = some (η i)
  | [], _, h => by cases h
  | j :: l, i, h => by
    simp only [pins, get_cons]
    split
    · next e => rw [e]
    · next e =>
      rcases List.mem_cons.1 h with h | h
      · exact absurd h.symm e
      · exact get_pins_mem h
def XFr {α : Type} (P : Program) (fn : Func) (nt : Nat) (η : Nat → Value) (φ : Nat → List Nat) (w : World) (hi : List (Nat × Res)) (kp : List Nat) (R : α → Prop) (r : α → AV) (ho : α → List (Nat × Res)) : Fr :=
  ⟨w, SOf φ hi, nt, XQ P fn η φ w hi kp R r ho, pins η kp⟩

def entA : Nat → List AV → List (Nat × AV)
  | _, [] => []
  | i, x :: l => (i, x) :: entA (i + 1) l
theorem entA_get : ∀ (i : Nat) (l : List AV) (j : Nat) (av : AV), get (entA i l) j = some av → i ≤ j ∧ l[j - i]? = some av
  | _, [], _, _, h => by cases h
  | i, x :: l, j, av, h => by
    simp only [entA, get_cons] at h
    split at h
    · next e => subst e; obtain rfl := Option.some.inj h; exact ⟨Nat.le_refl _, by simp⟩
    · next e =>
      obtain ⟨h1, h2⟩ := entA_get (i + 1) l j av h
      refine ⟨by omega, ?_⟩
      rw [show j - i = (j - (i + 1)) + 1 by omega, List.getElem?_cons_succ]; exact h2

theorem FnE.intro {α : Type} {f : FuncId} {fn : Func} {c : Code} {nt : Nat} {args : List AV} {hi : List (Nat × Res)} {kp : List Nat} {R : α → Prop} {r : α → AV} {ho : α → List (Nat × Res)} {tm : List (Nat × AV)}
    (hf : P.funcs[f]? = some fn) (hb : fn.body = some c) (hnt : fn.ntmps = nt) (hn : Nat.ble args.length nt = true) (he : entA 0 args = tm)
    (h : ∀ w0 F0 η φ w, AC P (XFr P fn nt η φ w ((900, .cust (extC w0 F0)) :: hi) kp R r (fun x => (900, .cust (extC w0 F0)) :: ho x)) [.code c] ⟨tm, (900, .cust (extC w0 F0)) :: hi⟩) : FnE P f args hi kp R r ho := by
  intro w0 F0 η φ w us hok hrel
  refine calls_of_wp hf hb ?_
  have hl := aRelL_length args us hrel
  have hn' := Nat.le_of_ble_eq_true hn
  refine h w0 F0 η φ w _ _ ⟨η, φ, rfl, ?_, ?_, hok.res, hok.disj, fun i q k h1 h2 => .inr ⟨i, q, h1, h2⟩, hok.lt, Keep.refl _ _, fun i v hi' => (get_pins hi').symm⟩
  · simp only [XFr, Array.size_append, List.size_toArray, Array.size_replicate, hnt, hl]; omega
  · intro i av hg
    rw [← he] at hg
    obtain ⟨_, h2⟩ := entA_get 0 args i av hg
    obtain ⟨u, h3, h4⟩ := aRelL_getElem args us i av hrel (by simpa using h2)
    refine ⟨u, ?_, h4⟩
    have hi' : i < us.length := (List.getElem?_eq_some_iff.1 h3).1
    rw [Array.getElem?_append_left (by simpa using hi')]
    simpa using h3

/-- What is handed back, among what is owned. -/
def HasE (hp : List (Nat × Res)) (ρ : Nat → Nat) : List (Nat × Res) → Prop
  | [] => True
  | (i, r) :: l => (∃ r', get hp (ρ i) = some r' ∧ r' = r.rnm ρ) ∧ HasE hp ρ l
theorem HasE.toH {hp : List (Nat × Res)} {ρ : Nat → Nat} : ∀ {l : List (Nat × Res)}, HasE hp ρ l → HasH hp ρ l
  | [], _ => trivial
  | (_, _) :: _, ⟨⟨_, h1, h2⟩, h3⟩ => ⟨by rw [h1, h2], h3.toH⟩
theorem vecE {ty rs : Nat} {rows' rows : List (List PV)} (h : rows' = rows) : Res.vec ty rs rows' = .vec ty rs rows := by rw [h]

theorem XQ_of {α : Type} {fn : Func} {nt : Nat} {η : Nat → Value} {φ : Nat → List Nat} {w0 : World} {hi : List (Nat × Res)} {kp : List Nat} {R : α → Prop} {r : α → AV} {ho : α → List (Nat × Res)} (x : α) (ρ : Nat → Nat) {avs : List AV}
    (h : RVs P st fn.results.toList avs) (hv : final avs = (r x).rnm ρ) (hR : R x) (hH : HasH st.hp ρ (ho x)) (hnd : ((ho x).map (fun p => ρ p.1)).Nodup) (hkp : ∀ i ∈ kp, ρ i = i) {a : Act} {w : World} (hr : Rep (XFr P fn nt η φ w0 hi kp R r ho) st a w) :
    bodyPost P fn (fun e w' => ∃ x, R x ∧ ∃ u η' φ', e = .returned u ∧ HpOk η' φ' (ho x) w' ∧ ARel η' (SOf φ' (ho x)) w' (r x) u ∧ (∀ i, i ∈ kp → η' i = η i) ∧
      (∀ i q k, get (ho x) i = some q → k ∈ φ' i → SOf φ hi k ∨ w0.heap.size ≤ k) ∧ Keep (SOf φ hi) w0 w') .ret a w := by
  obtain ⟨ηe, φe, hr⟩ := hr
  obtain ⟨u, e1, e2⟩ := results_run h hr
  have hinj : ∀ i q j q', get (ho x) i = some q → get (ho x) j = some q' → ρ i = ρ j → i = j := by
    intro i q j q' h1 h2
    have := inj_of_nodup (ρ := ρ) (l := (ho x).map (·.1)) (by rw [List.map_map]; exact hnd)
    exact this i (List.mem_map.2 ⟨_, mem_of_get h1, rfl⟩) j (List.mem_map.2 ⟨_, mem_of_get h2, rfl⟩)
  have hS : ∀ k, SOf (fun i => φe (ρ i)) (ho x) k → SOf φe st.hp k := by
    rintro k ⟨i, q, hg, hm⟩; exact ⟨_, _, hH.spec i q hg, hm⟩
  have hw : ∀ {S}, Same S w w := ⟨Nat.le_refl _, fun _ _ _ => rfl⟩
  refine ⟨hr.defers, u, e1, x, hR, u, fun i => ηe (ρ i), fun i => φe (ρ i), rfl, ⟨?_, ?_, ?_⟩, ?_, ?_, ?_, hr.keep⟩
  · intro i q hg
    refine RRes.mono hw (fun k _ h => hS k h) (fun _ _ => rfl) q (fun _ _ => rfl) ((RRes.rnm (η := ηe) (ρ := ρ) q).2 (hr.res _ _ (hH.spec i q hg)))
  · intro i j q q' k h1 h2 h3 h4
    exact hinj i q j q' h1 h2 (hr.disj _ _ _ _ k (hH.spec i q h1) (hH.spec j q' h2) h3 h4)
  · intro i q k h1 h2; exact hr.lt _ _ k (hH.spec i q h1) h2
  · rw [hv] at e2
    exact ARel.mono hw (fun k _ h => hS k h) _ _ (fun _ _ => rfl) ((ARel.rnm _ _).2 e2)
  · intro i hi'
    simp only [hkp i hi']
    exact hr.pin i (η i) (get_pins_mem hi')
  · intro i q k h1 h2
    exact (hr.low _ _ k (hH.spec i q h1) h2).symm

def kpB (σ : List Nat) : List Nat → Bool
  | [] => true
  | i :: l => Nat.beq (sg σ i) i && kpB σ l
theorem kpB_spec {σ : List Nat} : ∀ {l : List Nat}, kpB σ l = true → ∀ i ∈ l, sg σ i = i
  | [], _, _, h => by cases h
  | j :: l, hb, i, hi => by
    simp only [kpB, Bool.and_eq_true] at hb
    rcases List.mem_cons.1 hi with rfl | hi
    · exact Nat.eq_of_beq_eq_true hb.1
    · exact kpB_spec hb.2 i hi

theorem FnE.ret {α : Type} {fn : Func} {nt : Nat} {η : Nat → Value} {φ : Nat → List Nat} {w w0 : World} {F0 : List Nat} {hi : List (Nat × Res)} {kp : List Nat} {R : α → Prop} {r : α → AV} {ho : α → List (Nat × Res)} (x : α) (σ hos : List Nat) {l : List ResultVar} {avs : List AV}
    (hl : fn.results = l.toArray) (h : RVs P st l avs) (hext : get st.hp 900 = some (.cust (extC w0 F0))) (hhos : (ho x).map (·.1) = hos) (hb : (nodupB ((900 :: hos).map (sg σ)) && kpB σ kp) = true) (hR : R x) (hv : final avs = (r x).rnm (sg σ)) (hH : HasE st.hp (sg σ) (ho x)) :
    AC P (XFr P fn nt η φ w ((900, .cust (extC w0 F0)) :: hi) kp R r (fun x => (900, .cust (extC w0 F0)) :: ho x)) (.code .ret :: k) st := by
  intro a w' hr
  refine wp_ret ?_
  rw [cont_ret]
  simp only [Bool.and_eq_true] at hb
  refine XQ_of (ho := fun x => (900, .cust (extC w0 F0)) :: ho x) x (sg σ) (by rw [hl]; simpa using h) hv hR ⟨(show get st.hp 900 = some (Res.cust (extC w0 F0)) from hext), hH.toH⟩ ?_ (kpB_spec hb.2) hr
  have := nodupB_spec hb.1
  rw [← hhos] at this
  simpa [List.map_map, Function.comp_def] using this
theorem FnE.fin {α : Type} {fn : Func} {nt : Nat} {η : Nat → Value} {φ : Nat → List Nat} {w w0 : World} {F0 : List Nat} {hi : List (Nat × Res)} {kp : List Nat} {R : α → Prop} {r : α → AV} {ho : α → List (Nat × Res)} (x : α) (σ hos : List Nat) {l : List ResultVar} {avs : List AV}
    (hl : fn.results = l.toArray) (h : RVs P st l avs) (hext : get st.hp 900 = some (.cust (extC w0 F0))) (hhos : (ho x).map (·.1) = hos) (hb : (nodupB ((900 :: hos).map (sg σ)) && kpB σ kp) = true) (hR : R x) (hv : final avs = (r x).rnm (sg σ)) (hH : HasE st.hp (sg σ) (ho x)) :
    AC P (XFr P fn nt η φ w ((900, .cust (extC w0 F0)) :: hi) kp R r (fun x => (900, .cust (extC w0 F0)) :: ho x)) [] st := by
  intro a w' hr
  simp only [Bool.and_eq_true] at hb
  refine XQ_of (ho := fun x => (900, .cust (extC w0 F0)) :: ho x) x (sg σ) (by rw [hl]; simpa using h) hv hR ⟨(show get st.hp 900 = some (Res.cust (extC w0 F0)) from hext), hH.toH⟩ ?_ (kpB_spec hb.2) hr
  have := nodupB_spec hb.1
  rw [← hhos] at this
  simpa [List.map_map, Function.comp_def] using this
end
end Go.V
/- The calculus' rules: literals, slices of slices, bytes and strings, a thing given up. -/
namespace Go.V
open Go Go.RowKit

theorem spl_nil {α : Type} (l : List α) (o : Nat) : spl l o [] = l := by simp [spl]
theorem spl_cons {α : Type} (l : List α) (o : Nat) (v : α) (vs : List α) (h : o < l.length) : spl (l.set o v) (o + 1) vs = spl l o (v :: vs) := by
  have h1 : (l.set o v).take (o + 1) = l.take o ++ [v] := by
    rw [List.take_add_one, List.take_set_of_le (Nat.le_refl _)]
    simp [h]
  have h2 : (l.set o v).drop (o + 1 + vs.length) = l.drop (o + 1 + vs.length) := by
    rw [List.drop_set_of_lt (by omega)]
  unfold spl
  rw [h1, h2, List.append_assoc]
  simp [Nat.add_assoc, Nat.add_comm 1]
theorem foldl_set (off : Nat) : ∀ (vs : List Value) (j0 : Nat) (cs : Array Value), off + j0 + vs.length ≤ cs.size → ((vs.zipIdx j0).foldl (fun cs (x : Value × Nat) => cs.setIfInBounds (off + x.2) x.1) cs).toList = spl cs.toList (off + j0) vs
  | [], j0, cs, _ => by simp [spl_nil]
  | v :: vs, j0, cs, h => by
    simp only [List.length_cons] at h
    rw [List.zipIdx_cons, List.foldl_cons, foldl_set off vs (j0 + 1) _ (by simp; omega)]
    simp only [Array.toList_setIfInBounds]
    rw [show off + (j0 + 1) = off + j0 + 1 by omega, spl_cons _ _ _ _ (by simp; omega)]

section
variable {P : Program} {fr : Fr} {st : St}

/-- A literal's cells. -/
def St.fillA (st : St) (place : Nat → Option (Nat × Nat)) : List AV → List (Nat × Operand) → Option (List AV)
  | cs, [] => some cs
  | cs, (i, x) :: l => match place i with
    | none => none
    | some (off, size) => match st.ev x with
      | none => none
      | some av => match st.cellsOf av with
        | none => none
        | some vs => match Nat.beq vs.length size with
          | false => none
          | true => match Nat.ble (off + vs.length) cs.length with
            | true => St.fillA st place (spl cs off vs) l
            | false => none

theorem fillA_rel {place : Nat → Option (Nat × Nat)} {η : Nat → Value} {φ : Nat → List Nat} {a : Act} {w : World} (hr : RepE fr η φ st a w) : ∀ (l : List (Nat × Operand)) (cs cs' : List AV) (us : Array Value), st.fillA place cs l = some cs' → ARelL η (SOf φ st.hp) w cs us.toList →
    ∃ us', Instr.fill place us (l.map fun (i, x) => (i, a.eval x)) = some us' ∧ ARelL η (SOf φ st.hp) w cs' us'.toList
  | [], cs, cs', us, h, hrel => by
    simp only [St.fillA, Option.some.injEq] at h; subst h
    exact ⟨us, rfl, hrel⟩
  | (i, x) :: l, cs, cs', us, h, hrel => by
    simp only [St.fillA] at h
    cases hp : place i with
    | none => rw [hp] at h; cases h
    | some p =>
      obtain ⟨off, size⟩ := p
      rw [hp] at h
      simp only at h
      cases hx : st.ev x with
      | none => rw [hx] at h; cases h
      | some av =>
        rw [hx] at h
        simp only at h
        cases hc : st.cellsOf av with
        | none => rw [hc] at h; cases h
        | some vs =>
          rw [hc] at h
          simp only at h
          cases hb : Nat.beq vs.length size with
          | false => rw [hb] at h; cases h
          | true =>
            rw [hb] at h
            simp only at h
            cases hb2 : Nat.ble (off + vs.length) cs.length with
            | false => rw [hb2] at h; cases h
            | true =>
              rw [hb2] at h
              simp only at h
              have hv := cellsOf_rel hc hr (hr.ev hx)
              have hvl : (a.eval x).cells.size = vs.length := by have := aRelL_length vs _ hv; simpa using this
              have hcl : us.size = cs.length := by have := aRelL_length cs _ hrel; simpa using this
              have hsz := Nat.eq_of_beq_eq_true hb
              have hle := Nat.le_of_ble_eq_true hb2
              have hset := foldl_set off (a.eval x).cells.toList 0 us (by simp; omega)
              have hfold : ((a.eval x).cells.zipIdx.foldl (fun cs (x : Value × Nat) => cs.setIfInBounds (off + x.2) x.1) us).toList = spl us.toList off (a.eval x).cells.toList := by
                rw [← Array.foldl_toList, Array.toList_zipIdx]; simpa using hset
              obtain ⟨us', g1, g2⟩ := fillA_rel hr l (spl cs off vs) cs' ((a.eval x).cells.zipIdx.foldl (fun cs (x : Value × Nat) => cs.setIfInBounds (off + x.2) x.1) us) h (by rw [hfold]; exact aRelL_spl off hrel hv)
              refine ⟨us', ?_, g2⟩
              simp only [List.map_cons, Instr.fill, hp]
              rw [if_neg (by simp [hvl, hsz, hcl]; omega)]
              exact g1

/-- How a struct literal runs. -/
def BuildIs (P : Program) (ty : TypeId) (pl : List (Nat × Nat)) (z : Value) : Prop :=
  ∀ (ps : Array (Nat × Value)) (cells : Array Value) (w : World), Instr.fill (fun i => pl[i]?) z.cells ps.toList = some cells → (Instr.build ty ps).run P w = .ok (.agg cells) w

variable {d : Option Tmp} {t : TypeId} {pos : String} {aft : Array Edge} {g : Option (Nat × Bool)}

/-- A struct literal. -/
theorem Yld.buildA {ty : TypeId} {l : List (Nat × Operand)} {pl : List (Nat × Nat)} {z : Value} {zs : List PV} {cs : List AV} (hB : BuildIs P ty pl z) (hz : z.cells.toList.map zpv = zs) (hf : st.fillA (fun i => pl[i]?) (zs.map .p) l = some cs) :
    Yld P fr ⟨d, .build ty l.toArray, t, pos, aft, g⟩ st (.agg cs) :=
  Yld.of_run fun η φ A w hr => by
    obtain ⟨us, h1, h2⟩ := fillA_rel hr l (zs.map .p) cs z.cells hf (relL_map zs _ (hz ▸ zpvs_rel _ _ _))
    refine ⟨.agg us, fun w' _ => ?_, by simp only [ARel]; exact ⟨us, rfl, h2⟩⟩
    have e : (l.toArray.map (fun (i, x) => (i, A.eval x))).toList = l.map (fun (i, x) => (i, A.eval x)) := by simp
    simp only [execOp]
    rw [Sem.run_bind, hB _ us w' (by rw [e]; exact h1)]
    rfl

variable {ops : Array Oper} {rest : List Oper} {k : List It}

theorem junkL {η : Nat → Value} {S : Nat → Prop} {w : World} : ∀ us : List Value, ARelL η S w (List.replicate us.length .junk) us
  | [] => by simp [ARelL]
  | u :: us => by
    rw [List.length_cons, List.replicate_succ]
    simp only [ARelL]
    exact ⟨u, us, rfl, by simp only [ARel], junkL us⟩

/-- Rows out of cells. -/
def chunk {α : Type} (rs : Nat) : Nat → List α → List (List α)
  | 0, _ => []
  | n + 1, xs => xs.take rs :: chunk rs n (xs.drop rs)
theorem chunk_spec {α : Type} {rs : Nat} : ∀ (n : Nat) (xs : List α), xs.length = n * rs → (chunk rs n xs).flatten = xs ∧ (chunk rs n xs).length = n ∧ ∀ r ∈ chunk rs n xs, r.length = rs
  | 0, xs, h => by
    have : xs = [] := List.eq_nil_of_length_eq_zero (by simpa using h)
    subst this; simp [chunk]
  | n + 1, xs, h => by
    rw [Nat.add_mul] at h
    obtain ⟨h1, h2, h3⟩ := chunk_spec (rs := rs) n (xs.drop rs) (by rw [List.length_drop]; omega)
    refine ⟨by simp only [chunk, List.flatten_cons, h1, List.take_append_drop], by simp [chunk, h2], fun r hr => ?_⟩
    simp only [chunk, List.mem_cons] at hr
    rcases hr with rfl | hr
    · simp; omega
    · exact h3 r hr

theorem run_buildSlice0 {ty e' : TypeId} {i : TypeInfo} (hs : P.underlying ty = some (.slice e')) (h1 : P.info? e' = some i) (parts : Array (Nat × Value)) (us : Array Value) (w : World) (h : Instr.fill (fun j => some (j * i.size, i.size)) #[] parts.toList = some us) :
    (Instr.buildSlice ty 0 parts).run P w = .ok (.slice (some ⟨w.heap.size, 0, none⟩) 0 0) (w.alloc (.cells us e')) := by
  have h0 : ∀ f : Nat → Value, Array.map f (Array.range 0) = #[] := fun f => by simp
  have h2 : (sizeOf e').run P w = .ok i.size w := by simp [sizeOf, typeInfo, h1]
  have h3 : ∀ (c : Array Value) (els : Sem Value), ((match Instr.fill (fun j => some (j * i.size, i.size)) #[] parts.toList with
    | some cells => Functor.map (fun a => Value.slice (some ⟨a, 0, none⟩) 0 0) (newObj (.cells cells e'))
    | _ => els : Sem Value)).run P w = .ok (.slice (some ⟨w.heap.size, 0, none⟩) 0 0) (w.alloc (.cells us e')) := fun _ _ => by rw [h]; simp
  simp [Instr.buildSlice, run_underlying hs, h2, newRow]
  rw [show (Array.map (fun x => default) (Array.range 0) : Array Value) = #[] from by simp]
  exact h3 #[] _

/-- A slice literal. -/
theorem AO.buildSlice {dd : Nat} {ty e' : TypeId} {n : Nat} {l : List (Nat × Operand)} (id : Nat) {z : Value} {rs bytes : Nat} {cs : List AV} {xs : List PV} {rows : List (List PV)} (hs : P.underlying ty = some (.slice e')) (hi : TyIs P e' z rs bytes) (_hzs : Nat.beq z.cells.size rs = true)
    (hrs : Nat.blt 0 rs = true) (hn : Nat.blt (n * rs) 1000000 = true) (hf : st.fillA (fun i => some (i * rs, rs)) (List.replicate (n * rs) .junk) l = some cs) (hp : pvs cs = some xs) (hxl : Nat.beq xs.length (n * rs) = true) (hch : chunk rs n xs = rows)
    (hfr : st.fresh id = true) (hlt : Nat.blt dd fr.nt = true)
    (hk : AO P fr ops rest k false ⟨(dd, .h id) :: st.tm, (id, .vec e' rs rows) :: st.hp⟩) (hpin : get fr.pin id = none := by rfl) : AO P fr ops (⟨some dd, .buildSlice ty n l.toArray, t, pos, aft, none⟩ :: rest) k false st :=
  AO.of_run rfl rfl (fun a w ⟨η, φ, hr⟩ => by
    obtain ⟨i, h1, h2, h3, h4⟩ := info_parts hi
    obtain ⟨hrows, hnl, hrl⟩ := chunk_spec (rs := rs) n xs (Nat.eq_of_beq_eq_true hxl)
    rw [hch] at hrows hnl hrl
    have hn' : n * rs < 1000000 := Nat.le_of_ble_eq_true hn
    have hrs0 : 0 < rs := Nat.le_of_ble_eq_true hrs
    have hnn : n < 1000000 := by
      have : n * 1 ≤ n * rs := Nat.mul_le_mul_left n hrs0
      omega
    have e : (l.toArray.map (fun (i, x) => (i, a.eval x))).toList = l.map (fun (i, x) => (i, a.eval x)) := by simp
    have main : ∃ us : Array Value, (Instr.buildSlice ty n (l.toArray.map fun (i, x) => (i, a.eval x))).run P w = .ok (.slice (some ⟨w.heap.size, 0, none⟩) n n) (w.alloc (.cells us e')) ∧ ARelL η (SOf φ st.hp) w cs us.toList := by
      rcases Nat.eq_zero_or_pos n with h0 | h0
      · subst h0
        obtain ⟨us, g1, g2⟩ := fillA_rel hr l (List.replicate (0 * rs) .junk) cs #[] hf (by simp [ARelL])
        exact ⟨us, run_buildSlice0 hs h1 _ us w (by rw [h3, e]; exact g1), g2⟩
      · obtain ⟨us, g1, g2⟩ := fillA_rel hr l (List.replicate (n * rs) .junk) cs ((Array.range (n * rs)).map (z.cells[· % z.cells.size]!)) hf (by
          have := junkL (η := η) (S := SOf φ st.hp) (w := w) ((Array.range (n * rs)).map (z.cells[· % z.cells.size]!)).toList
          simpa using this)
        refine ⟨us, ?_, g2⟩
        have hpos : ¬ n * i.size = 0 := by rw [h3]; have := Nat.mul_pos h0 hrs0; omega
        exact run_buildSlice w ty e' n _ us i z hs h1 h2 (by rw [h3]; omega) hpos (by rw [h3, e]; exact g1)
    obtain ⟨us, g1, g2⟩ := main
    have hrel := pvs_rel cs xs _ hp g2
    rw [← hrows] at hrel
    have husl : us.size = n * rs := by
      have := relL_length _ _ hrel
      rw [flatten_length rows hrl, hnl] at this
      simpa using this
    have hb : Below w.heap.size w (w.alloc (.cells us e')) := (Below.refl _ _).alloc (Nat.le_refl _) _
    refine ⟨_, _, by simp only [execOp, Sem.run_bind, g1]; rfl, _, _, hr.addPut hb id hfr (.vec e' rs rows) (.slice (some ⟨w.heap.size, 0, none⟩) n n) [w.heap.size] (by simp) ⟨us.toList, ?_, hrl, ⟨?_, .inr ⟨w.heap.size, n, us, by rw [hnl], Nat.zero_le _, heap_alloc_new w _, by omega, by simp only [maxLen]; omega, husl, ?_⟩⟩, rfl⟩ hlt hpin⟩
    · refine RelL.mono (Same.of_below hb) ?_ _ _ hrel
      rintro k hk ⟨i, r', hg, hm⟩
      rw [get_cons] at hg
      split at hg
      · next e => subst e; rw [upd_self] at hm; simp at hm; omega
      · next e => rw [upd_ne _ _ (fun h => e h.symm)] at hm; exact ⟨i, r', hg, hm⟩
    · simp [husl, hnl]
    · rw [hnl, List.take_of_length_le (by simp [husl])]) hk

/-- A bound of a slice expression. -/
inductive Bnd (st : St) (dflt : Nat) : Option Operand → Nat → Prop
  | none : Bnd st dflt none dflt
  | some {x : Operand} {kk : IntKind} {j : Int} {n : Nat} : st.ev x = some (.p (.v (.int kk j))) → j = (n : Int) → Bnd st dflt (some x) n

theorem bnds_run {lo hi : Option Operand} {l h n cap : Nat} {η : Nat → Value} {φ : Nat → List Nat} {a : Act} {w w' : World} (hr : RepE fr η φ st a w) (hl : Bnd st 0 lo l) (hh : Bnd st n hi h) (h1 : l ≤ h) (h2 : h ≤ cap) (b : Bool) :
    (Instr.sliceBounds b n cap (lo.map a.eval) (hi.map a.eval) none).run P w' = .ok (l, h, cap) w' := by
  cases hl with
  | none =>
    cases hh with
    | none => simp [Instr.sliceBounds]
    | some hx he =>
      have e := hr.ev hx
      simp only [ARel, Rel] at e
      simp [Instr.sliceBounds, e, he, run_sliceBound, h2]
  | some gx ge =>
    have f := hr.ev gx
    simp only [ARel, Rel] at f
    cases hh with
    | none => simp [Instr.sliceBounds, f, ge, run_sliceBound, h1]
    | some hx he =>
      have e := hr.ev hx
      simp only [ARel, Rel] at e
      simp [Instr.sliceBounds, e, he, f, ge, run_sliceBound, h1, h2]

theorem run_sliceAt {ty e : TypeId} (hs : P.underlying ty = some (.slice e)) {rs : Nat} (hsz : ∀ w, (sizeOf e).run P w = .ok rs w) {a : Option Addr} {n cap l h : Nat} {lo hi : Option Value} {w : World} (hb : (Instr.sliceBounds true n cap lo hi none).run P w = .ok (l, h, cap) w) :
    (Instr.sliceAt ty (.slice a n cap) lo hi none).run P w = .ok (.slice (if cap = l then a else a.map (·.add (l * rs))) (h - l) (cap - l)) w := by
  simp [Instr.sliceAt, Instr.slice, run_underlying hs, hb, hsz]

/-- A slice of a slice that is only read. -/
theorem Yld.sliceSl {ty e : TypeId} {x : Operand} {lo hi : Option Operand} {l h rs : Nat} {rows : List (List PV)} (hs : P.underlying ty = some (.slice e)) (hsz : ∀ w, (sizeOf e).run P w = .ok rs w)
    (hx : st.ev x = some (.p (.sl rs rows))) (hl : Bnd st 0 lo l) (hh : Bnd st rows.length hi h) (h1 : l ≤ h) (h2 : h ≤ rows.length) :
    Yld P fr ⟨d, .slice ty x lo hi none, t, pos, aft, g⟩ st (.p (.sl rs ((rows.take h).drop l))) :=
  Yld.of_run fun η φ A w hr => by
    have hrel := hr.ev hx
    simp only [ARel, Rel] at hrel
    obtain ⟨a, cap, e1, e2, e3⟩ := hrel
    refine ⟨.slice (if cap = l then a else a.map (·.add (l * rs))) (h - l) (cap - l), fun w' hw' => ?_, ?_⟩
    · have := run_sliceAt (P := P) hs hsz (a := a) (n := rows.length) (cap := cap) (w := w') (bnds_run hr hl hh h1 (by omega) true)
      simp only [execOp, e1, Sem.run_bind, Option.map_none, this]; rfl
    · simp only [ARel, Rel]
      have hlen : ((rows.take h).drop l).length = h - l := by simp; omega
      refine ⟨_, cap - l, by rw [hlen], by rw [hlen]; omega, ?_⟩
      rcases e3 with e3 | ⟨b, o, rfl, e4, e5, e6⟩
      · subst e3; left; simp
      · by_cases hc : cap = l
        · left
          exact List.eq_nil_of_length_eq_zero (by rw [hlen]; omega)
        · right
          refine ⟨b, o + l * rs, by rw [if_neg hc]; simp [add_plain], e4, e5, ?_⟩
          exact relRows_drop l o _ (relRows_take h o _ e6)

/-- A piece of a string. -/
theorem Yld.sliceStr {ty : TypeId} {x : Operand} {lo hi : Option Operand} {l h : Nat} {s : List UInt8} (hs : P.underlying ty = some .string)
    (hx : st.ev x = some (.p (.v (str s)))) (hl : Bnd st 0 lo l) (hh : Bnd st s.length hi h) (h1 : l ≤ h) (h2 : h ≤ s.length) :
    Yld P fr ⟨d, .slice ty x lo hi none, t, pos, aft, g⟩ st (.p (.v (str ((s.take h).drop l)))) :=
  Yld.of_run fun η φ A w hr => by
    have e := hr.ev hx
    simp only [ARel, Rel] at e
    refine ⟨str ((s.take h).drop l), fun w' hw' => ?_, by simp [ARel, Rel]⟩
    have hsz : (ByteArray.mk s.toArray).size = s.length := by simp [ByteArray.size]
    have hb := bnds_run (P := P) (w' := w') hr hl (n := s.length) (cap := s.length) hh h1 h2 false
    have : (Instr.sliceAt ty (A.eval x) (lo.map A.eval) (hi.map A.eval) none).run P w' = .ok (str ((s.take h).drop l)) w' := by
      rw [e]
      simp only [str, Instr.sliceAt, Instr.slice, Sem.run_bind, run_underlying hs, Result.andThen_ok, hsz, Option.isSome_none]
      have hx : (ByteArray.mk s.toArray).extract l h = ⟨((s.take h).drop l).toArray⟩ := by
        apply ByteArray.ext
        simp [ByteArray.data_extract, List.drop_take]
      simp only [Bool.false_eq_true, if_false, Sem.run_bind, Sem.run_pure]
      rw [hb]
      simp [hx]
    simp only [execOp, Sem.run_bind, Option.map_none, this]; rfl

/-- The bytes of a slice, as a string. -/
def encB (c : UInt8) : List PV := [.v (.int .u8 c.toNat)]
theorem Yld.convBytes {src dst e : TypeId} {x : Operand} {av : AV} {l : List UInt8} (hs : P.underlying src = some (.slice e)) (he : P.underlying e = some (.int .u8)) (hd : P.underlying dst = some .string) (hx : st.ev x = some av) (hv : st.view av = some (.sl 1 (l.map encB))) :
    Yld P fr ⟨d, .convert src dst x, t, pos, aft, g⟩ st (.p (.v (str l))) :=
  Yld.of_run fun η φ A w hr => by
    refine ⟨str l, fun w' hw' => ?_, by simp [ARel, Rel]⟩
    have hrel := view_rel hv (hr.below hw') ((hr.below hw').ev hx)
    simp only [Rel, List.length_map] at hrel
    obtain ⟨a, cap, e1, e2, e3⟩ := hrel
    have : (convert src dst (A.eval x)).run P w' = .ok (str l) w' := by
      rw [e1]
      rcases e3 with e3 | ⟨b, o, rfl, _, e5, e6⟩
      · have : l = [] := by simpa using e3
        subst this
        cases a with
        | none => exact run_convert_bytes_nil w' src e hs he _ _ dst hd
        | some a => exact run_convert_bytes_back w' src dst e a cap [] hs he hd (fun j hj => by simp at hj)
      · refine run_convert_bytes_back w' src dst e ⟨b, o, none⟩ cap l hs he hd (fun j hj => ?_)
        have hrow := relRows_getElem o _ j (encB l[j]) e6 (by simp [List.getElem?_eq_getElem hj])
        obtain ⟨⟨u, f1, f2⟩, _⟩ := hrow.2
        simp only [Rel] at f2
        rw [add_plain]
        simp only [Nat.mul_one] at f1
        rw [f1, f2]
    simp only [execOp, Sem.run_bind, this]; rfl

/-! A thing of one's own that is given up: from then on it is only read. -/
mutual
def AV.subst (id : Nat) (x : PV) : AV → AV
  | .h i => match Nat.beq i id with
    | true => .p x
    | false => .h i
  | .el i rs row off => match Nat.beq i id with
    | true => .junk
    | false => .el i rs row off
  | .agg cs => .agg (AV.substL id x cs)
  | .tup cs => .tup (AV.substL id x cs)
  | .clo f cs => .clo f (AV.substL id x cs)
  | .p y => .p y
  | .junk => .junk
def AV.substL (id : Nat) (x : PV) : List AV → List AV
  | [] => []
  | c :: cs => c.subst id x :: AV.substL id x cs
end
def substT (id : Nat) (x : PV) : List (Nat × AV) → List (Nat × AV)
  | [] => []
  | (i, a) :: l => (i, a.subst id x) :: substT id x l
def Res.subst (id : Nat) (x : PV) : Res → Res
  | .box ty cs => .box ty (AV.substL id x cs)
  | .vec ty rs rows => .vec ty rs rows
  | .cust C => .cust C
def substH (id : Nat) (x : PV) : List (Nat × Res) → List (Nat × Res)
  | [] => []
  | (j, r) :: l => match Nat.beq j id with
    | true => substH id x l
    | false => (j, r.subst id x) :: substH id x l
theorem get_substT (id : Nat) (x : PV) : ∀ l i, get (substT id x l) i = (get l i).map (AV.subst id x)
  | [], _ => rfl
  | (j, a) :: l, i => by
    simp only [substT, get_cons, get_substT id x l i]
    split <;> rfl
theorem get_substH (id : Nat) (x : PV) : ∀ l i, get (substH id x l) i = if i = id then none else (get l i).map (Res.subst id x)
  | [], i => by simp [substH, get]
  | (j, a) :: l, i => by
    simp only [substH]
    by_cases hj : j = id
    · subst hj
      have : Nat.beq j j = true := by simp
      rw [this]
      simp only [get_cons, get_substH j x l i]
      by_cases hi : i = j
      · rw [if_pos hi, if_pos hi]
      · rw [if_neg hi, if_neg hi, if_neg (fun e => hi e.symm)]
    · rw [beq_false hj]
      simp only [get_cons, get_substH id x l i]
      by_cases hi : j = i
      · subst hi; rw [if_pos rfl, if_neg hj, if_pos rfl]; rfl
      · rw [if_neg hi, if_neg hi]
mutual
theorem ARel.subst {η : Nat → Value} {S S' : Nat → Prop} {w : World} {id : Nat} {x : PV} (hS : ∀ k, S' k → S k) (hx : Rel S' w x (η id)) : ∀ (a : AV) (u : Value), ARel η S w a u → ARel η S' w (a.subst id x) u
  | .p y, u, h => by simp only [ARel, AV.subst] at h ⊢; exact Rel.mono ⟨Nat.le_refl _, fun _ _ _ => rfl⟩ (fun k _ h => hS k h) y u h
  | .h i, u, h => by
    simp only [ARel, AV.subst] at h ⊢
    by_cases e : i = id
    · subst e
      have : Nat.beq i i = true := by simp
      rw [this]; simp only [ARel]; rw [h]; exact hx
    · rw [beq_false e]; simp only [ARel]; exact h
  | .el i rs row off, u, h => by
    simp only [AV.subst]
    by_cases e : i = id
    · subst e
      have : Nat.beq i i = true := by simp
      rw [this]; simp only [ARel]
    · rw [beq_false e]; simpa only [ARel] using h
  | .agg cs, u, h => by
    simp only [ARel, AV.subst] at h ⊢
    obtain ⟨us, h1, h2⟩ := h
    exact ⟨us, h1, ARelL.subst hS hx cs us.toList h2⟩
  | .tup cs, u, h => by
    simp only [ARel, AV.subst] at h ⊢
    obtain ⟨us, h1, h2⟩ := h
    exact ⟨us, h1, ARelL.subst hS hx cs us.toList h2⟩
  | .clo f cs, u, h => by
    simp only [ARel, AV.subst] at h ⊢
    obtain ⟨us, h1, h2⟩ := h
    exact ⟨us, h1, ARelL.subst hS hx cs us.toList h2⟩
  | .junk, _, _ => by simp only [ARel, AV.subst]
theorem ARelL.subst {η : Nat → Value} {S S' : Nat → Prop} {w : World} {id : Nat} {x : PV} (hS : ∀ k, S' k → S k) (hx : Rel S' w x (η id)) : ∀ (cs : List AV) (us : List Value), ARelL η S w cs us → ARelL η S' w (AV.substL id x cs) us
  | [], _, h => by simpa only [ARelL, AV.substL] using h
  | c :: cs, us, h => by
    simp only [ARelL, AV.substL] at h ⊢
    obtain ⟨u, us', h1, h2, h3⟩ := h
    exact ⟨u, us', h1, ARel.subst hS hx c u h2, ARelL.subst hS hx cs us' h3⟩
end

theorem RepE.freeze {η : Nat → Value} {φ : Nat → List Nat} {a : Act} {w : World} (hr : RepE fr η φ st a w) (id : Nat) {ty : TypeId} {rs : Nat} {rows : List (List PV)} (hg : get st.hp id = some (.vec ty rs rows)) :
    RepE fr η φ ⟨substT id (.sl rs rows) st.tm, substH id (.sl rs rows) st.hp⟩ a w := by
  have hget : ∀ i r, get (substH id (.sl rs rows) st.hp) i = some r → i ≠ id ∧ ∃ r0, get st.hp i = some r0 ∧ r = r0.subst id (.sl rs rows) := by
    intro i r h
    rw [get_substH] at h
    split at h
    · cases h
    · next e => obtain ⟨r0, h1, rfl⟩ := Option.map_eq_some_iff.1 h; exact ⟨e, r0, h1, rfl⟩
  have hS : ∀ k, SOf φ (substH id (.sl rs rows) st.hp) k → SOf φ st.hp k := by
    rintro k ⟨i, r, h1, h2⟩
    obtain ⟨_, r0, h3, _⟩ := hget i r h1
    exact ⟨i, r0, h3, h2⟩
  have hx : Rel (SOf φ (substH id (.sl rs rows) st.hp)) w (.sl rs rows) (η id) := by
    refine vec_viewS hr hg hS ?_
    rintro k ⟨i, r, h1, h2⟩ h3
    obtain ⟨hne, r0, h4, _⟩ := hget i r h1
    exact hne (hr.disj i id r0 _ k h4 hg h2 h3)
  refine ⟨hr.defers, hr.size, ?_, ?_, ?_, ?_, ?_, hr.keep, hr.pin⟩
  · intro i av h
    rw [get_substT] at h
    obtain ⟨a0, h1, rfl⟩ := Option.map_eq_some_iff.1 h
    obtain ⟨u, h2, h3⟩ := hr.slots i a0 h1
    exact ⟨u, h2, ARel.subst hS hx a0 u h3⟩
  · intro i r h
    obtain ⟨hne, r0, h1, rfl⟩ := hget i r h
    have hres := hr.res i r0 h1
    cases r0 with
    | box ty cs =>
      obtain ⟨b, arr, e1, e2, e3, e4⟩ := hres
      exact ⟨b, arr, e1, e2, e3, ARelL.subst hS hx cs _ e4⟩
    | vec ty rs rows =>
      exact RRes.mono ⟨Nat.le_refl _, fun _ _ _ => rfl⟩ (fun k _ h => hS k h) (fun _ _ => rfl) (.vec ty rs rows) (fun _ _ => rfl) hres
    | cust C => exact RRes.mono ⟨Nat.le_refl _, fun _ _ _ => rfl⟩ (fun k _ h => hS k h) (fun _ _ => rfl) (.cust C) (fun _ _ => rfl) hres
  · intro i j r r' k h1 h2
    obtain ⟨_, r0, h3, _⟩ := hget i r h1
    obtain ⟨_, r1, h4, _⟩ := hget j r' h2
    exact hr.disj i j r0 r1 k h3 h4
  · intro i r k h1
    obtain ⟨_, r0, h3, _⟩ := hget i r h1
    exact hr.low i r0 k h3
  · intro i r k h1
    obtain ⟨_, r0, h3, _⟩ := hget i r h1
    exact hr.lt i r0 k h3
theorem AC.freeze (id : Nat) {ty : TypeId} {rs : Nat} {rows : List (List PV)} (hg : get st.hp id = some (.vec ty rs rows)) (hk : AC P fr k ⟨substT id (.sl rs rows) st.tm, substH id (.sl rs rows) st.hp⟩) : AC P fr k st :=
  fun a w ⟨_, _, hr⟩ => hk a w ⟨_, _, hr.freeze id hg⟩
theorem AO.freeze (id : Nat) {ty : TypeId} {rs : Nat} {rows : List (List PV)} (hg : get st.hp id = some (.vec ty rs rows)) (hk : AO P fr ops rest k false ⟨substT id (.sl rs rows) st.tm, substH id (.sl rs rows) st.hp⟩) : AO P fr ops rest k false st :=
  fun a w ⟨_, _, hr⟩ => hk a w ⟨_, _, hr.freeze id hg⟩

/-- A slice of one's own is made shorter. -/
theorem AO.truncate {dd : Nat} {ty e : TypeId} {x : Operand} (id : Nat) {hi : Option Operand} {h rs : Nat} {rows : List (List PV)} (hs : P.underlying ty = some (.slice e)) (hsz : ∀ w, (sizeOf e).run P w = .ok rs w)
    (hx : st.ev x = some (.h id)) (hid : get st.hp id = some (.vec e rs rows)) (hh : Bnd st rows.length hi h) (h2 : h ≤ rows.length) (hlt : Nat.blt dd fr.nt = true)
    (hk : AO P fr ops rest k false ⟨(dd, .h id) :: dropT id st.tm, setR id (.vec e rs (rows.take h)) (dropH id st.hp)⟩) (hpin : get fr.pin id = none := by rfl) :
    AO P fr ops (⟨some dd, .slice ty x none hi none, t, pos, aft, none⟩ :: rest) k false st :=
  AO.of_run rfl rfl (fun a w ⟨η, φ, hr⟩ => by
    have ex := hr.ev hx
    simp only [ARel] at ex
    obtain ⟨xs, f1, f2, f3, f4⟩ := hr.res id _ hid
    have hrow : (rows.take h).length = h := by simp; omega
    have hflat : (rows.take h).flatten = rows.flatten.take (h * rs) := by
      have : ∀ (rows : List (List PV)) (h : Nat), (∀ r ∈ rows, r.length = rs) → h ≤ rows.length → (rows.take h).flatten = rows.flatten.take (h * rs) := by
        intro rows
        induction rows with
        | nil => intro h _ _; simp
        | cons r rows ih =>
          intro h hl hh
          cases h with
          | zero => simp
          | succ h =>
            have hr0 := hl r (by simp)
            simp only [List.take_succ_cons, List.flatten_cons]
            rw [ih h (fun q hq => hl q (by simp [hq])) (by simpa using hh), show (h + 1) * rs = r.length + h * rs by rw [hr0, Nat.add_mul]; omega, List.take_length_add_append]
      exact this rows h f2 h2
    have main : ∃ v', (Instr.sliceAt ty (η id) (Option.map a.eval none) (hi.map a.eval) none).run P w = .ok v' w ∧ w.ownsRow 0 e rs v' h (xs.take (h * rs)) ∧ v'.ownBlock = (η id).ownBlock := by
      rcases f3.2 with ⟨e0, hn0⟩ | ⟨gb, cap, cur, e0, hb0, hgb, hnc, hcm, hcs, htk⟩
      · have hh0 : h = 0 := by omega
        subst hh0
        have hb := bnds_run (P := P) (w' := w) hr (Bnd.none (st := st) (dflt := 0)) (n := rows.length) (cap := 0) hh (Nat.le_refl _) (by omega) true
        rw [hn0] at hb
        refine ⟨.slice none 0 0, ?_, by simpa using World.ownsRow_nil w 0 e rs, by rw [e0]⟩
        rw [e0]
        rw [run_sliceAt hs hsz hb]
        simp
      · have hb := bnds_run (P := P) (w' := w) hr (Bnd.none (st := st) (dflt := 0)) (n := rows.length) (cap := cap) hh (Nat.zero_le _) (by omega) true
        refine ⟨.slice (some ⟨gb, 0, none⟩) h cap, ?_, ⟨?_, .inr ⟨gb, cap, cur, rfl, hb0, hgb, by omega, hcm, hcs, ?_⟩⟩, by rw [e0]; rfl⟩
        · rw [e0, run_sliceAt hs hsz hb]
          simp [add_plain]
        · rw [List.length_take, f3.1, Nat.min_eq_left (Nat.mul_le_mul_right _ h2)]
        · rw [← htk, List.take_take, Nat.min_eq_left (Nat.mul_le_mul_right _ h2)]
    obtain ⟨v', g1, g2, g3⟩ := main
    refine ⟨v', w, by simp only [execOp, ex, Sem.run_bind, Option.map_none] at g1 ⊢; rw [g1]; rfl, ?_⟩
    have hd := hr.drop id
    have hg0 : get (dropH id st.hp) id = some (.vec e rs rows) := by rw [get_dropH, hid]; rfl
    have hch := hd.change id hg0 (.vec e rs (rows.take h)) v' v'.ownBlock.toList rfl rfl rfl (Nat.le_refl _) (fun _ _ _ => rfl) (fun k hk => by rw [g3, ← f4] at hk; exact ⟨.inl hk, hr.lt id _ k hid hk⟩)
      (.inr ⟨freshT_drop id st.tm, fun j r _ hg => by rw [get_dropH] at hg; obtain ⟨r0, _, rfl⟩ := Option.map_eq_some_iff.1 hg; exact Res.drop_names id r0, hpin⟩) (by
        have hS : ∀ k, k < w.heap.size → SOf (upd φ id v'.ownBlock.toList) (setR id (.vec e rs (rows.take h)) (dropH id st.hp)) k → SOf φ st.hp k := by
          rintro k hk ⟨i, r', hg, hm⟩
          rw [get_setR id _ _ _ hg0] at hg
          by_cases e1 : i = id
          · subst e1; rw [upd_self, g3, ← f4] at hm; exact ⟨i, _, hid, hm⟩
          · rw [if_neg e1, get_dropH] at hg
            obtain ⟨r0, h0, _⟩ := Option.map_eq_some_iff.1 hg
            rw [upd_ne _ _ e1] at hm; exact ⟨i, r0, h0, hm⟩
        refine ⟨xs.take (h * rs), ?_, fun r hr' => f2 r (List.mem_of_mem_take hr'), by rw [hrow]; exact g2, rfl⟩
        rw [hflat]
        exact RelL.mono (S := SOf φ st.hp) ⟨Nat.le_refl _, fun _ _ _ => rfl⟩ hS _ _ (relL_take _ _ _ f1))
    exact ⟨_, _, hch.put hlt (av := .h id) (by simp only [ARel]; rw [upd_self])⟩) hk

end
end Go.V
/- The calculus' rules: loops with several turning values. -/
namespace Go.V
open Go
section
variable {P : Program} {fr : Fr} {st : St} {k : List It}
theorem AC.loopC2 {c : Code} {σ0 σ1 : Type} (C : List (Nat × AV)) (CH : List (Nat × Res)) (V : σ0 → σ1 → List (Nat × AV)) (H : σ0 → σ1 → List (Nat × Res)) (J : σ0 → σ1 → Prop) (μ : σ0 → σ1 → Nat) (a0 : σ0) (a1 : σ1)
    (hC : SubT st.tm C) (hCH : SubH st.hp CH) (hV : SubT st.tm (V a0 a1)) (hH : SubH st.hp (H a0 a1)) (h0 : J a0 a1)
    (round : ∀ x0 x1, J x0 x1 → AC P fr (.code c :: .inv (fun st' => ∃ y0 y1, J y0 y1 ∧ μ y0 y1 < μ x0 x1 ∧ SubT st'.tm (V y0 y1) ∧ SubH st'.hp (H y0 y1) ∧ SubT st'.tm C ∧ SubH st'.hp CH) :: k) ⟨V x0 x1 ++ C, H x0 x1 ++ CH⟩) :
    AC P fr (.code (.loop c) :: k) st :=
  AC.loopC (σ := σ0 × σ1) C CH (fun s => V s.1 s.2) (fun s => H s.1 s.2) (fun s => J s.1 s.2) (fun s => μ s.1 s.2) (a0, a1) hC hCH hV hH h0 (fun ⟨x0, x1⟩ hJ => by
    intro a w hr
    refine wp_mono (round x0 x1 hJ a w hr) ?_
    intro e a' w' hq
    cases e with
    | normal =>
      obtain ⟨st', ⟨y0, y1, h1, h2⟩, h3⟩ := hq
      exact ⟨st', ⟨(y0, y1), h1, h2⟩, h3⟩
    | _ => exact hq)
theorem AC.loopC3 {c : Code} {σ0 σ1 σ2 : Type} (C : List (Nat × AV)) (CH : List (Nat × Res)) (V : σ0 → σ1 → σ2 → List (Nat × AV)) (H : σ0 → σ1 → σ2 → List (Nat × Res)) (J : σ0 → σ1 → σ2 → Prop) (μ : σ0 → σ1 → σ2 → Nat) (a0 : σ0) (a1 : σ1) (a2 : σ2)
    (hC : SubT st.tm C) (hCH : SubH st.hp CH) (hV : SubT st.tm (V a0 a1 a2)) (hH : SubH st.hp (H a0 a1 a2)) (h0 : J a0 a1 a2)
    (round : ∀ x0 x1 x2, J x0 x1 x2 → AC P fr (.code c :: .inv (fun st' => ∃ y0 y1 y2, J y0 y1 y2 ∧ μ y0 y1 y2 < μ x0 x1 x2 ∧ SubT st'.tm (V y0 y1 y2) ∧ SubH st'.hp (H y0 y1 y2) ∧ SubT st'.tm C ∧ SubH st'.hp CH) :: k) ⟨V x0 x1 x2 ++ C, H x0 x1 x2 ++ CH⟩) :
    AC P fr (.code (.loop c) :: k) st :=
  AC.loopC (σ := σ0 × σ1 × σ2) C CH (fun s => V s.1 s.2.1 s.2.2) (fun s => H s.1 s.2.1 s.2.2) (fun s => J s.1 s.2.1 s.2.2) (fun s => μ s.1 s.2.1 s.2.2) (a0, a1, a2) hC hCH hV hH h0 (fun ⟨x0, x1, x2⟩ hJ => by
    intro a w hr
    refine wp_mono (round x0 x1 x2 hJ a w hr) ?_
    intro e a' w' hq
    cases e with
    | normal =>
      obtain ⟨st', ⟨y0, y1, y2, h1, h2⟩, h3⟩ := hq
      exact ⟨st', ⟨(y0, y1, y2), h1, h2⟩, h3⟩
    | _ => exact hq)
theorem AC.loopC4 {c : Code} {σ0 σ1 σ2 σ3 : Type} (C : List (Nat × AV)) (CH : List (Nat × Res)) (V : σ0 → σ1 → σ2 → σ3 → List (Nat × AV)) (H : σ0 → σ1 → σ2 → σ3 → List (Nat × Res)) (J : σ0 → σ1 → σ2 → σ3 → Prop) (μ : σ0 → σ1 → σ2 → σ3 → Nat) (a0 : σ0) (a1 : σ1) (a2 : σ2) (a3 : σ3)
    (hC : SubT st.tm C) (hCH : SubH st.hp CH) (hV : SubT st.tm (V a0 a1 a2 a3)) (hH : SubH st.hp (H a0 a1 a2 a3)) (h0 : J a0 a1 a2 a3)
    (round : ∀ x0 x1 x2 x3, J x0 x1 x2 x3 → AC P fr (.code c :: .inv (fun st' => ∃ y0 y1 y2 y3, J y0 y1 y2 y3 ∧ μ y0 y1 y2 y3 < μ x0 x1 x2 x3 ∧ SubT st'.tm (V y0 y1 y2 y3) ∧ SubH st'.hp (H y0 y1 y2 y3) ∧ SubT st'.tm C ∧ SubH st'.hp CH) :: k) ⟨V x0 x1 x2 x3 ++ C, H x0 x1 x2 x3 ++ CH⟩) :
    AC P fr (.code (.loop c) :: k) st :=
  AC.loopC (σ := σ0 × σ1 × σ2 × σ3) C CH (fun s => V s.1 s.2.1 s.2.2.1 s.2.2.2) (fun s => H s.1 s.2.1 s.2.2.1 s.2.2.2) (fun s => J s.1 s.2.1 s.2.2.1 s.2.2.2) (fun s => μ s.1 s.2.1 s.2.2.1 s.2.2.2) (a0, a1, a2, a3) hC hCH hV hH h0 (fun ⟨x0, x1, x2, x3⟩ hJ => by
    intro a w hr
    refine wp_mono (round x0 x1 x2 x3 hJ a w hr) ?_
    intro e a' w' hq
    cases e with
    | normal =>
      obtain ⟨st', ⟨y0, y1, y2, y3, h1, h2⟩, h3⟩ := hq
      exact ⟨st', ⟨(y0, y1, y2, y3), h1, h2⟩, h3⟩
    | _ => exact hq)
theorem AC.loopC5 {c : Code} {σ0 σ1 σ2 σ3 σ4 : Type} (C : List (Nat × AV)) (CH : List (Nat × Res)) (V : σ0 → σ1 → σ2 → σ3 → σ4 → List (Nat × AV)) (H : σ0 → σ1 → σ2 → σ3 → σ4 → List (Nat × Res)) (J : σ0 → σ1 → σ2 → σ3 → σ4 → Prop) (μ : σ0 → σ1 → σ2 → σ3 → σ4 → Nat) (a0 : σ0) (a1 : σ1) (a2 : σ2) (a3 : σ3) (a4 : σ4)
    (hC : SubT st.tm C) (hCH : SubH st.hp CH) (hV : SubT st.tm (V a0 a1 a2 a3 a4)) (hH : SubH st.hp (H a0 a1 a2 a3 a4)) (h0 : J a0 a1 a2 a3 a4)
    (round : ∀ x0 x1 x2 x3 x4, J x0 x1 x2 x3 x4 → AC P fr (.code c :: .inv (fun st' => ∃ y0 y1 y2 y3 y4, J y0 y1 y2 y3 y4 ∧ μ y0 y1 y2 y3 y4 < μ x0 x1 x2 x3 x4 ∧ SubT st'.tm (V y0 y1 y2 y3 y4) ∧ SubH st'.hp (H y0 y1 y2 y3 y4) ∧ SubT st'.tm C ∧ SubH st'.hp CH) :: k) ⟨V x0 x1 x2 x3 x4 ++ C, H x0 x1 x2 x3 x4 ++ CH⟩) :
    AC P fr (.code (.loop c) :: k) st :=
  AC.loopC (σ := σ0 × σ1 × σ2 × σ3 × σ4) C CH (fun s => V s.1 s.2.1 s.2.2.1 s.2.2.2.1 s.2.2.2.2) (fun s => H s.1 s.2.1 s.2.2.1 s.2.2.2.1 s.2.2.2.2) (fun s => J s.1 s.2.1 s.2.2.1 s.2.2.2.1 s.2.2.2.2) (fun s => μ s.1 s.2.1 s.2.2.1 s.2.2.2.1 s.2.2.2.2) (a0, a1, a2, a3, a4) hC hCH hV hH h0 (fun ⟨x0, x1, x2, x3, x4⟩ hJ => by
    intro a w hr
    refine wp_mono (round x0 x1 x2 x3 x4 hJ a w hr) ?_
    intro e a' w' hq
    cases e with
    | normal =>
      obtain ⟨st', ⟨y0, y1, y2, y3, y4, h1, h2⟩, h3⟩ := hq
      exact ⟨st', ⟨(y0, y1, y2, y3, y4), h1, h2⟩, h3⟩
    | _ => exact hq)

variable {d : Option Tmp} {t : TypeId} {pos : String} {aft : Array Edge} {g : Option (Nat × Bool)}
/-- A conversion of an int64 to an int64. -/
theorem Yld.convId {src dst : TypeId} {x : Operand} {a : Int} {D : TypeDesc} (hs : P.underlying src = some D) (hd : P.underlying dst = some (.int .i64))
    (hx : st.ev x = some (.p (.v (.int .i64 a)))) (h1 : -9223372036854775808 ≤ a) (h2 : a ≤ 9223372036854775807) : Yld P fr ⟨d, .convert src dst x, t, pos, aft, g⟩ st (.p (.v (.int .i64 a))) := by
  have := Yld.convInt (P := P) (fr := fr) (d := d) (t := t) (pos := pos) (aft := aft) (g := g) hs hd hx
  rwa [wrap_id h1 h2] at this
/-- A slice of a slice of rows, up to a place, or from one on. -/
theorem Yld.sliceTo {α : Type} {enc : α → List PV} {ty e : TypeId} {x y : Operand} {h rs : Nat} {xs : List α} {kk : IntKind} {j : Int} (hs : P.underlying ty = some (.slice e)) (hsz : ∀ w, (sizeOf e).run P w = .ok rs w)
    (hx : st.ev x = some (.p (.sl rs (xs.map enc)))) (hy : st.ev y = some (.p (.v (.int kk j)))) (hj : j = (h : Int)) (h2 : h ≤ xs.length) :
    Yld P fr ⟨d, .slice ty x none (some y) none, t, pos, aft, g⟩ st (.p (.sl rs ((xs.take h).map enc))) := by
  have := Yld.sliceSl (P := P) (fr := fr) (d := d) (t := t) (pos := pos) (aft := aft) (g := g) hs hsz hx .none (.some hy hj) (Nat.zero_le _) (by simpa using h2)
  simpa [List.map_take] using this
theorem Yld.sliceFrom {α : Type} {enc : α → List PV} {ty e : TypeId} {x y : Operand} {l rs : Nat} {xs : List α} {kk : IntKind} {j : Int} (hs : P.underlying ty = some (.slice e)) (hsz : ∀ w, (sizeOf e).run P w = .ok rs w)
    (hx : st.ev x = some (.p (.sl rs (xs.map enc)))) (hy : st.ev y = some (.p (.v (.int kk j)))) (hj : j = (l : Int)) (h2 : l ≤ xs.length) :
    Yld P fr ⟨d, .slice ty x (some y) none none, t, pos, aft, g⟩ st (.p (.sl rs ((xs.drop l).map enc))) := by
  have := Yld.sliceSl (P := P) (fr := fr) (d := d) (t := t) (pos := pos) (aft := aft) (g := g) hs hsz hx (.some hy hj) .none (by simpa using h2) (Nat.le_refl _)
  rw [List.take_of_length_le (by simp)] at this
  simpa [List.map_drop] using this
variable {ops : Array Oper} {rest : List Oper} {q : Bool}
/-- A slice beside nil: where it is nil it has no elements. -/
theorem AO.eqNil {dd : Nat} {ty ty2 e : TypeId} {x : Operand} {av : AV} {rs n : Nat} (hs : P.underlying ty = some (.slice e)) (hx : st.ev x = some av) (hb : st.rows av = some (rs, n)) (hlt : Nat.blt dd fr.nt = true)
    (hk : ∀ c : Bool, (c = true → n = 0) → AO P fr ops rest k q (st.put dd (.p (.v (.bool c))))) :
    AO P fr ops (⟨some dd, .binOp .eql ty x (.const (.slice none 0 0)) ty2, t, pos, aft, none⟩ :: rest) k q st := by
  have main : ∀ η φ a w, RepE fr η φ st a w → ∃ c : Bool, (c = true → n = 0) ∧ ∀ w', (execOp a.eval ⟨some dd, .binOp .eql ty x (.const (.slice none 0 0)) ty2, t, pos, aft, none⟩).run P w' = .ok (.value (.bool c)) w' := by
    intro η φ a w hr
    obtain ⟨y, cap, h1⟩ := rows_rel hb hr (hr.ev hx)
    refine ⟨y.isNone, fun h => ?_, fun w' => ?_⟩
    · have hrel := hr.ev hx
      cases y with
      | some y => cases h
      | none =>
        cases av with
        | p z =>
          cases z with
          | sl rs' rows =>
            simp only [St.rows, Option.some.injEq, Prod.mk.injEq] at hb
            simp only [ARel, Rel] at hrel
            obtain ⟨a', cap', e1, _, e3⟩ := hrel
            rw [h1] at e1
            simp only [Value.slice.injEq] at e1
            rcases e3 with e3 | ⟨b, o, e4, _⟩
            · rw [← hb.2, e3]; rfl
            · rw [← e1.1] at e4; cases e4
          | _ => cases hb
        | h id =>
          simp only [St.rows] at hb
          simp only [ARel] at hrel
          cases hg : get st.hp id with
          | none => rw [hg] at hb; cases hb
          | some r =>
            rw [hg] at hb
            cases r with
            | cust C => cases hb
            | box ty cs' => cases hb
            | vec ty rs' rows =>
              simp only [Option.some.injEq, Prod.mk.injEq] at hb
              obtain ⟨xs, _, _, h3, _⟩ := hr.res id _ hg
              rcases h3.2 with ⟨_, hn⟩ | ⟨g, cap', cur, e, _⟩
              · rw [← hb.2]; exact hn
              · rw [← hrel, h1] at e
                simp at e
        | _ => cases hb
    · have := Go.Lib.run_eql_slice_nil (P := P) w' ty e y n cap 0 0 hs
      have he : a.eval (.const (.slice none 0 0)) = .slice none 0 0 := rfl
      simp only [execOp, h1, he, eqGuard]
      simp [this]
  cases q with
  | false =>
    intro a w ⟨η, φ, hr⟩
    obtain ⟨c, h1, h2⟩ := main η φ a w hr
    simp only [wpList, wanted_none (o := ⟨some dd, .binOp .eql ty x (.const (.slice none 0 0)) ty2, t, pos, aft, none⟩) rfl, if_true]
    refine .inl ?_
    unfold Oper.wp
    rw [h2 w]
    simp only [Oper.upon]
    exact hk c h1 _ _ ⟨η, φ, hr.put hlt (by simp [ARel, Rel])⟩
  | true =>
    intro η φ a w hr
    obtain ⟨c, h1, h2⟩ := main η φ a w hr
    simp only [wpQuiet, wanted_none (o := ⟨some dd, .binOp .eql ty x (.const (.slice none 0 0)) ty2, t, pos, aft, none⟩) rfl, if_true]
    refine ⟨.bool c, fun w' hw' => by unfold Oper.quietAt; rw [h2 w']; exact ⟨rfl, rfl⟩, hk c h1 η φ _ w (hr.put hlt (by simp [ARel, Rel]))⟩
end
end Go.V
/- Versions as plain data. -/
namespace Go.V
open Go

structure Ver where
  number : Int
  parent : Int
  memo : List UInt8
  state : List NV
  deriving DecidableEq, Inhabited
def encVer (x : Ver) : List PV := [.v (.int .i64 x.number), .v (.int .i64 x.parent), .v (str x.memo), .sl 2 (x.state.map encNV)]
def tVer : Ty := .struct [.int .i64, .int .i64, .str, .slice tNV]
/-- What a version that is handed in bears of itself. -/
def VerWf (x : Ver) : Prop := i64b x.number ∧ i64b x.parent ∧ x.memo.length ≤ 9223372036854775807 ∧ x.state.length ≤ 9223372036854775807 ∧ ∀ s ∈ x.state, s.name.length ≤ 9223372036854775807
theorem hasVer {l : List PV} (h : tVer.Has l) : ∃ x : Ver, l = encVer x ∧ VerWf x := by
  simp only [tVer, Ty.Has] at h
  obtain ⟨_, _, rfl, h1, h⟩ := hasL_cons h
  obtain ⟨_, _, rfl, h2, h⟩ := hasL_cons h
  obtain ⟨_, _, rfl, h3, h⟩ := hasL_cons h
  obtain ⟨_, _, rfl, h4, h⟩ := hasL_cons h
  obtain rfl := hasL_nil h
  obtain ⟨a, rfl, w1⟩ := has_int h1
  obtain ⟨b, rfl, w2⟩ := has_int h2
  obtain ⟨c, rfl, w3⟩ := has_str h3
  simp only [Ty.Has] at h4
  obtain ⟨rows, rfl, hr, hl⟩ := h4
  obtain ⟨xs, rfl, hx⟩ := rows_of (enc := encNV) (fun r hr => hasNV hr) rows hr
  refine ⟨⟨a, b, c, xs⟩, rfl, wf_i64 w1, wf_i64 w2, w3, ?_, fun s hs => (hx s hs).1⟩
  rw [List.length_map] at hl
  simpa [maxLen] using hl
/-- Lengths that were counted. -/
def VerGood (x : Ver) : Prop := x.memo.length ≤ 1048576 ∧ x.state.length ≤ 1048576 ∧ ∀ s ∈ x.state, s.name.length ≤ 1048576
def VersGood (xs : List Ver) : Prop := xs.length ≤ 1048576 ∧ ∀ v ∈ xs, VerGood v
theorem good_snoc {xs : List Ver} {k : Nat} {x : Ver} (hx : xs[k]? = some x) (h : ∀ v ∈ xs.take k, VerGood v) (hg : VerGood x) : ∀ v ∈ xs.take (k + 1), VerGood v := by
  rw [take_snoc hx]; intro v hv
  rcases List.mem_append.1 hv with hv | hv
  · exact h v hv
  · simp at hv; subst hv; exact hg
theorem good_one {x : Ver} {l l1 r : Int} (h0 : 0 ≤ l) (h : l ≤ 1048576) (h1 : l1 = l - x.memo.length) (h2 : ¬ l1 < 0) (hr : r = szAll NV.name x.state l1) (h3 : ¬ r < 0) : VerGood x ∧ 0 ≤ r ∧ r ≤ l := by
  subst hr
  have hz := szAll_ge (f := NV.name) (xs := x.state) (left := l1) (by simpa using h3)
  have hp := lens_nonneg (f := NV.name) (xs := x.state)
  refine ⟨⟨by omega, by omega, fun s hs => ?_⟩, by omega, by omega⟩
  have := len_le_lens (f := NV.name) hs
  omega
end Go.V
/- What the program's functions on histories, late and false clocks, odd marks and needs answer. -/
namespace Go.V
open Go

/-- A test of place and element holds for the first k. -/
def allITo {α : Type} (p : Nat → α → Bool) (xs : List α) : Nat → Bool
  | 0 => true
  | k + 1 => allITo p xs k && (match xs[k]? with | some x => p k x | none => true)
def allI {α : Type} (p : Nat → α → Bool) (xs : List α) : Bool := allITo p xs xs.length
section
variable {α : Type} {p : Nat → α → Bool} {xs : List α} {k : Nat} {x : α}
theorem allITo_succ (h : xs[k]? = some x) : allITo p xs (k + 1) = (allITo p xs k && p k x) := by simp [allITo, h]
theorem allITo_mono {j : Nat} (h : j ≤ k) (hk : allITo p xs k = true) : allITo p xs j = true := by
  induction k with
  | zero => obtain rfl : j = 0 := by omega
            rfl
  | succ k ih =>
    simp only [allITo, Bool.and_eq_true] at hk
    rcases Nat.lt_or_ge j (k + 1) with h1 | h1
    · exact ih (by omega) hk.1
    · obtain rfl : j = k + 1 := by omega
      simp only [allITo, Bool.and_eq_true]; exact hk
theorem allI_at (h : allI p xs = true) (hx : xs[k]? = some x) : p k x = true := by
  have hk := lt_of_get hx
  have := allITo_mono (j := k + 1) (by omega) h
  rw [allITo_succ hx] at this
  simp at this; exact this.2
theorem allI_miss (hx : xs[k]? = some x) (h : p k x = false) : allI p xs = false := by
  cases e : allI p xs with
  | false => rfl
  | true => rw [allI_at e hx] at h; cases h
end

/-- The places where a test holds. -/
def idxTo {α : Type} (p : α → Bool) (xs : List α) : Nat → List Int
  | 0 => []
  | k + 1 => match xs[k]? with
    | some x => if p x = true then idxTo p xs k ++ [(k : Int)] else idxTo p xs k
    | none => idxTo p xs k
def idxOn {α : Type} (p : α → Bool) (xs : List α) : List Int := idxTo p xs xs.length
section
variable {α : Type} {p : α → Bool} {xs : List α} {k : Nat} {x : α}
theorem idxTo_T (hx : xs[k]? = some x) (h : p x = true) : idxTo p xs (k + 1) = idxTo p xs k ++ [(k : Int)] := by simp [idxTo, hx, h]
theorem idxTo_F (hx : xs[k]? = some x) (h : p x = false) : idxTo p xs (k + 1) = idxTo p xs k := by simp [idxTo, hx, h]
theorem idxTo_len (k : Nat) : (idxTo p xs k).length ≤ k := by
  induction k with
  | zero => simp [idxTo]
  | succ k ih => simp only [idxTo]; split <;> (try split) <;> (try simp only [List.length_append, List.length_singleton]) <;> omega
theorem idxOn_len : (idxOn p xs).length ≤ xs.length := idxTo_len xs.length
end
theorem map_snoc {α β : Type} (f : α → β) (l : List α) (x : α) : (l ++ [x]).map f = l.map f ++ [f x] := by simp

def memoByte (c : UInt8) : Bool := !(decide (c.toNat < 32) || decide (c.toNat > 126))
def okMemo (s : List UInt8) : Bool := s.all memoByte && decide (s.length ≤ 20)
def okVer (i : Nat) (v : Ver) : Bool := decide (v.number = (i : Int) + 1) && (decide (0 ≤ v.parent) && decide (v.parent ≤ i)) && okMemo v.memo && okState v.state
def okVers (xs : List Ver) : Bool := allI okVer xs && decide (xs.length ≤ 32)

def lateB (l : Int) (m : Mach) : Bool := decide (l < (m.delay + 1) / 2)
def lateMachines (xs : List Mach) (l : Int) : List Int × Int :=
  if askMachines xs = 0 then (if l < 0 then ([], 2) else (idxOn (lateB l) xs, 0)) else ([], askMachines xs)
def falseB (b : Int) (m : Mach) : Bool := !liesB m b
def falseClocks (xs : List Mach) : List Int × Int :=
  if askMachines xs = 0 then (idxOn (falseB (bestB xs xs.length).1) xs, 0) else ([], askMachines xs)
def fitT (xs : List CMark) : Int := divR (sumTo turnOf xs xs.length) xs.length
def fitL (xs : List CMark) : Int := divR (sumTo liftOf xs xs.length) xs.length
def oddB (t l lim : Int) (x : CMark) : Bool := decide (absI (turnOf x - t) > lim) || decide (absI (liftOf x - l) > lim)
def oddMarks (xs : List CMark) (lim : Int) : List Int × Int :=
  if askMarks xs = 0 then (if decide (0 ≤ lim) && decide (lim ≤ 5000) then (idxOn (oddB (fitT xs) (fitL xs) lim) xs, 0) else ([], 2)) else ([], askMarks xs)
theorem late_len (xs : List Mach) (l : Int) : (lateMachines xs l).1.length ≤ xs.length := by
  unfold lateMachines; split <;> (try split) <;> simp <;> exact idxOn_len
theorem false_len (xs : List Mach) : (falseClocks xs).1.length ≤ xs.length := by
  unfold falseClocks; split <;> simp <;> exact idxOn_len
theorem odd_len (xs : List CMark) (l : Int) : (oddMarks xs l).1.length ≤ xs.length := by
  unfold oddMarks; split <;> (try split) <;> simp <;> exact idxOn_len
end Go.V
namespace Go.V
theorem divR_lim {a b M : Int} (hb : 0 < b) (hM : 0 ≤ M) (h1 : -(M * b) ≤ a) (h2 : a ≤ M * b) : -M ≤ divR a b ∧ divR a b ≤ M := by
  have e : ∀ c : Int, 0 ≤ c → c ≤ M * b → 0 ≤ (2 * c + b) / (2 * b) ∧ (2 * c + b) / (2 * b) ≤ M := by
    intro c h0 h3
    refine ⟨Int.ediv_nonneg (by omega) (by omega), ?_⟩
    have : (2 * c + b) / (2 * b) < M + 1 := by
      rw [Int.ediv_lt_iff_lt_mul (by omega)]
      have : (M + 1) * (2 * b) = 2 * (M * b) + 2 * b := by rw [Int.add_mul, Int.mul_left_comm]; omega
      omega
    omega
  unfold divR
  split
  · have := e (-a) (by omega) (by omega)
    rw [show 2 * -a + b = b - 2 * a by omega] at this
    omega
  · have := e a (by omega) (by omega); omega
theorem fitT_lim {xs : List CMark} (h : askMarks xs = 0) : -180000 ≤ fitT xs ∧ fitT xs ≤ 180000 := by
  obtain ⟨_, h1, _⟩ := askMarks_ok h
  have := turn_lim xs xs.length
  exact divR_lim (by omega) (by omega) (by omega) (by omega)
theorem fitL_lim {xs : List CMark} (h : askMarks xs = 0) : -90000 ≤ fitL xs ∧ fitL xs ≤ 90000 := by
  obtain ⟨h0, h1, _⟩ := askMarks_ok h
  have := lift_lim h0 xs.length
  exact divR_lim (by omega) (by omega) (by omega) (by omega)
end Go.V
