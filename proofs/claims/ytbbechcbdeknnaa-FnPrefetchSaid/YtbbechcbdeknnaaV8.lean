/- The calculus' rules: loops, forgetting, a function's begin and end; a contract of a function that only reads. -/
import Derived.Test.YtbbechcbdeknnaaV7
import Derived.Deep.LoopGhost
set_option linter.all false
namespace Go.V
open Go Go.RowKit

section
variable {P : Program} {fr : Fr} {st : St} {k : List It}

/-- What a state says beside another. -/
def Le (fr : Fr) (st st' : St) : Prop := ∀ a w, Rep fr st a w → Rep fr st' a w
theorem Le.refl (fr : Fr) (st : St) : Le fr st st := fun _ _ h => h

def SubT (tm : List (Nat × AV)) : List (Nat × AV) → Prop
  | [] => True
  | (i, a) :: l => get tm i = some a ∧ SubT tm l
def SubH (hp : List (Nat × Res)) : List (Nat × Res) → Prop
  | [] => True
  | (i, a) :: l => get hp i = some a ∧ SubH hp l
theorem SubT.spec {tm : List (Nat × AV)} : ∀ {l : List (Nat × AV)}, SubT tm l → ∀ i a, get l i = some a → get tm i = some a
  | [], _, _, _, h => by cases h
  | (j, b) :: l, hs, i, a, h => by
    rw [get_cons] at h
    split at h
    · next e => subst e; obtain rfl := Option.some.inj h; exact hs.1
    · exact hs.2.spec i a h
theorem SubH.spec {hp : List (Nat × Res)} : ∀ {l : List (Nat × Res)}, SubH hp l → ∀ i a, get l i = some a → get hp i = some a
  | [], _, _, _, h => by cases h
  | (j, b) :: l, hs, i, a, h => by
    rw [get_cons] at h
    split at h
    · next e => subst e; obtain rfl := Option.some.inj h; exact hs.1
    · exact hs.2.spec i a h

theorem Le.intro {st' : St} (ht : SubT st.tm st'.tm) (hh : SubH st.hp st'.hp) : Le fr st st' := by
  rintro a w ⟨η, φ, hr⟩
  have hS : ∀ k, k < w.heap.size → SOf φ st'.hp k → SOf φ st.hp k := fun k _ ⟨i, r, hg, hm⟩ => ⟨i, r, hh.spec i r hg, hm⟩
  have hw : Same (SOf φ st.hp) w w := ⟨Nat.le_refl _, fun _ _ _ => rfl⟩
  refine ⟨η, φ, hr.defers, hr.size, ?_, ?_, ?_, ?_, ?_, hr.keep, hr.pin⟩
  · intro i av hg
    obtain ⟨u, h1, h2⟩ := hr.slots i av (ht.spec i av hg)
    exact ⟨u, h1, ARel.mono hw hS av u (fun _ _ => rfl) h2⟩
  · intro i r hg
    exact RRes.mono hw hS (fun _ _ => rfl) r (fun _ _ => rfl) (hr.res i r (hh.spec i r hg))
  · intro i j r r' k h1 h2; exact hr.disj i j r r' k (hh.spec i r h1) (hh.spec j r' h2)
  · intro i r k h1; exact hr.low i r k (hh.spec i r h1)
  · intro i r k h1; exact hr.lt i r k (hh.spec i r h1)

theorem AC.keep {st' : St} (hl : Le fr st st') (h : AC P fr k st') : AC P fr k st := fun a w hr => h a w (hl a w hr)

theorem AC.loop {c : Code} {σ : Type} (S : σ → St) (J : σ → Prop) (μ : σ → Nat) (s0 : σ) (h0 : J s0) (hl : Le fr st (S s0))
    (round : ∀ s, J s → AC P fr (.code c :: .inv (fun st' => ∃ s', J s' ∧ μ s' < μ s ∧ Le fr st' (S s')) :: k) (S s)) : AC P fr (.code (.loop c) :: k) st := by
  intro a w hr
  refine wp_loop_ghost (fun n a w => ∃ s, J s ∧ μ s = n ∧ Rep fr (S s) a w) (μ s0) ⟨s0, h0, rfl, hl a w hr⟩ ?_
  rintro n a w ⟨s, hJ, rfl, hrep⟩
  refine wp_mono (round s hJ a w hrep) ?_
  intro e a' w' hq
  cases e with
  | normal =>
    obtain ⟨st', ⟨s', h1, h2, h3⟩, h4⟩ := hq
    exact ⟨μ s', h2, s', h1, rfl, h3 a' w' h4⟩
  | _ => exact hq

/-- A loop: what stays (C, CH), what turns (V, H). -/
theorem AC.loopC {c : Code} {σ : Type} (C : List (Nat × AV)) (CH : List (Nat × Res)) (V : σ → List (Nat × AV)) (H : σ → List (Nat × Res)) (J : σ → Prop) (μ : σ → Nat) (s0 : σ)
    (hC : SubT st.tm C) (hCH : SubH st.hp CH) (hV : SubT st.tm (V s0)) (hH : SubH st.hp (H s0)) (h0 : J s0)
    (round : ∀ s, J s → AC P fr (.code c :: .inv (fun st' => ∃ s', J s' ∧ μ s' < μ s ∧ SubT st'.tm (V s') ∧ SubH st'.hp (H s') ∧ SubT st'.tm C ∧ SubH st'.hp CH) :: k) ⟨V s ++ C, H s ++ CH⟩) :
    AC P fr (.code (.loop c) :: k) st := by
  have subT : ∀ {tm l l' : List (Nat × AV)}, SubT tm l → SubT tm l' → SubT tm (l ++ l') := by
    intro tm l l' h h'
    induction l with
    | nil => exact h'
    | cons a l ih => exact ⟨h.1, ih h.2⟩
  have subH : ∀ {tm l l' : List (Nat × Res)}, SubH tm l → SubH tm l' → SubH tm (l ++ l') := by
    intro tm l l' h h'
    induction l with
    | nil => exact h'
    | cons a l ih => exact ⟨h.1, ih h.2⟩
  refine AC.loop (fun s => ⟨V s ++ C, H s ++ CH⟩) J μ s0 h0 (Le.intro (subT hV hC) (subH hH hCH)) (fun s hJ => ?_)
  intro a w hr
  have := round s hJ a w hr
  refine wp_mono this ?_
  intro e a' w' hq
  cases e with
  | normal =>
    obtain ⟨st', ⟨s', h1, h2, h3, h4, h5, h6⟩, h7⟩ := hq
    exact ⟨st', ⟨s', h1, h2, Le.intro (subT h3 h5) (subH h4 h6)⟩, h7⟩
  | _ => exact hq

theorem AC.back {I : St → Prop} (h : I st) : AC P fr (.inv I :: k) st := fun _ _ hr => ⟨st, h, hr⟩

theorem cont_ret : ∀ (k : List It), cont P fr k .ret = fr.Q .ret
  | [] => rfl
  | .code c :: k => by funext a w; exact congrFun (congrFun (cont_ret k) a) w
  | .mark id :: k => by funext a w; exact congrFun (congrFun (cont_ret k) a) w
  | .inv I :: k => by funext a w; exact congrFun (congrFun (cont_ret k) a) w

/-! Results. -/
def rvSem (tmps : Array Value) : ResultVar → Sem Value
  | .tmp t => pure (tmps.getD t undef)
  | .cell a t => do loadVar t (← asAddr (tmps.getD a undef))

theorem results_eq (fn : Func) (tmps : Array Value) : results fn tmps = (do let vs ← fn.results.mapM (rvSem tmps); pure (if h : vs.size = 1 then vs[0] else .tuple vs)) := by
  unfold results
  congr 2

def RV (P : Program) (st : St) (rv : ResultVar) (av : AV) : Prop :=
  ∀ fr η φ a w, RepE fr η φ st a w → ∃ u, (rvSem a.tmps rv).run P w = .ok u w ∧ ARel η (SOf φ st.hp) w av u

theorem RV.tmp {t : Nat} {av : AV} (h : get st.tm t = some av) : RV P st (.tmp t) av := fun _ _ _ a _ hr => by
  obtain ⟨u, h1, h2⟩ := hr.slots t av h
  exact ⟨u, by simp [rvSem, Array.getD_eq_getD_getElem?, h1], h2⟩

theorem RV.cell {t ty n : Nat} {av : AV} {cs cs' : List AV} (hagg : ∀ w, (isAgg ty).run P w = .ok true w) (hsz : ∀ w, (sizeOf ty).run P w = .ok n w) (h : get st.tm t = some av) (hb : st.behind av = some cs)
    (hc : cs.take n = cs') (hn : Nat.beq cs'.length n = true) : RV P st (.cell t ty) (.agg cs') := fun _ η φ a w hr => by
  obtain ⟨u, h1, h2⟩ := hr.slots t av h
  obtain ⟨b, o, e1, e2, e3⟩ := behind_rel hb hr h2
  obtain ⟨us, e, h4, h5⟩ := aRelAt_list o cs' (hc ▸ aRelAt_take n o cs e3)
  refine ⟨.agg us.toArray, ?_, by simp only [ARel]; exact ⟨us.toArray, rfl, by simpa using h5⟩⟩
  have hl : us.length = n := e.trans (Nat.eq_of_beq_eq_true hn)
  have := run_loadCells_list (P := P) w ⟨b, o, none⟩ us (fun j v hj => by rw [add_plain]; exact h4 j v hj)
  rw [hl] at this
  have hu : a.tmps.getD t undef = .pointer (some ⟨b, o, none⟩) := by rw [← e1]; simp [Array.getD_eq_getD_getElem?, h1]
  simp [rvSem, hu, asAddr, loadVar, hagg, hsz, this]

inductive RVs (P : Program) (st : St) : List ResultVar → List AV → Prop
  | nil : RVs P st [] []
  | cons {rv : ResultVar} {av : AV} {l : List ResultVar} {avs : List AV} : RV P st rv av → RVs P st l avs → RVs P st (rv :: l) (av :: avs)

theorem RVs.spec {l : List ResultVar} {avs : List AV} (h : RVs P st l avs) {η : Nat → Value} {φ : Nat → List Nat} {a : Act} {w : World} (hr : RepE fr η φ st a w) :
    ∃ us : List Value, (l.mapM (rvSem a.tmps)).run P w = .ok us w ∧ ARelL η (SOf φ st.hp) w avs us := by
  induction h with
  | nil => exact ⟨[], by simp, by simp [ARelL]⟩
  | @cons rv av l avs h1 h2 ih =>
    obtain ⟨us, e1, e2⟩ := ih
    obtain ⟨u, e3, e4⟩ := h1 fr η φ a w hr
    refine ⟨u :: us, ?_, by simp only [ARelL]; exact ⟨u, us, rfl, e4, e2⟩⟩
    rw [List.mapM_cons]
    simp only [Sem.run_bind, e3, Sem.run_pure, Result.andThen_ok, e1]

/-- The value of all results together. -/
def final : List AV → AV
  | [x] => x
  | l => .tup l

theorem results_run {fn : Func} {avs : List AV} (h : RVs P st fn.results.toList avs) {η : Nat → Value} {φ : Nat → List Nat} {a : Act} {w : World} (hr : RepE fr η φ st a w) :
    ∃ u, (results fn a.tmps).run P w = .ok u w ∧ ARel η (SOf φ st.hp) w (final avs) u := by
  obtain ⟨us, e1, e2⟩ := h.spec hr
  have hl := aRelL_length avs us e2
  rw [results_eq, Array.mapM_eq_mapM_toList]
  simp only [Sem.run_bind, Sem.run_map, e1, Result.andThen_ok, Sem.run_pure]
  refine ⟨_, rfl, ?_⟩
  match avs, us, e2, hl with
  | [], [], _, _ => simp [final, ARel, ARelL]
  | [x], [u], e2, _ =>
    simp only [ARelL] at e2
    obtain ⟨u', us', e, h1, h2⟩ := e2
    simp only [List.cons.injEq] at e
    obtain ⟨rfl, rfl⟩ := e
    simpa [final] using h1
  | x :: y :: l, u :: v :: us, e2, _ =>
    simp only [final, ARel]
    exact ⟨(u :: v :: us).toArray, by simp, by simpa using e2⟩

/-! A function that only reads. -/
def PQ (P : Program) (fn : Func) (w : World) (r : PV) : Exit → Act → World → Prop :=
  bodyPost P fn fun e w' => ∃ u, e = .returned u ∧ Rel (fun _ => False) w' r u ∧ Below w.heap.size w w'
def PFr (P : Program) (fn : Func) (nt : Nat) (w : World) (r : PV) : Fr := ⟨w, fun _ => False, nt, PQ P fn w r, []⟩

def ent : Nat → List PV → List (Nat × AV)
  | _, [] => []
  | i, x :: l => (i, .p x) :: ent (i + 1) l

theorem ent_get : ∀ (i : Nat) (l : List PV) (j : Nat) (av : AV), get (ent i l) j = some av → ∃ x, i ≤ j ∧ l[j - i]? = some x ∧ av = .p x
  | _, [], _, _, h => by cases h
  | i, x :: l, j, av, h => by
    simp only [ent, get_cons] at h
    split at h
    · next e => subst e; obtain rfl := Option.some.inj h; exact ⟨x, Nat.le_refl _, by simp, rfl⟩
    · next e =>
      obtain ⟨y, h1, h2, h3⟩ := ent_get (i + 1) l j av h
      refine ⟨y, by omega, ?_, h3⟩
      rw [show j - i = (j - (i + 1)) + 1 by omega, List.getElem?_cons_succ]; exact h2

theorem Pure.intro {f : FuncId} {fn : Func} {c : Code} {nt : Nat} {args : List PV} {r : PV} {tm : List (Nat × AV)} (hf : P.funcs[f]? = some fn) (hb : fn.body = some c) (hnt : fn.ntmps = nt) (hn : Nat.ble args.length nt = true)
    (he : ent 0 args = tm) (h : ∀ w, AC P (PFr P fn nt w r) [.code c] ⟨tm, []⟩) : Pure P f args r := by
  intro w us hrel
  refine calls_of_wp hf hb ?_
  have hl := relL_length args us hrel
  have hn' := Nat.le_of_ble_eq_true hn
  refine h w _ _ ⟨fun _ => undef, fun _ => [], rfl, ?_, ?_, ?_, ?_, ?_, ?_, Keep.refl _ _, fun _ _ h => by cases h⟩
  · simp only [PFr, Array.size_append, List.size_toArray, Array.size_replicate, hnt, hl]; omega
  · intro i av hg
    rw [← he] at hg
    obtain ⟨x, _, h2, rfl⟩ := ent_get 0 args i av hg
    obtain ⟨u, h3, h4⟩ := relL_getElem args us i x hrel (by simpa using h2)
    refine ⟨u, ?_, by simp only [ARel]; exact Rel.mono ⟨Nat.le_refl _, fun _ _ _ => rfl⟩ (fun k _ ⟨_, _, hg, _⟩ => by cases hg) x u h4⟩
    have hi : i < us.length := (List.getElem?_eq_some_iff.1 h3).1
    rw [Array.getElem?_append_left (by simpa using hi)]
    simpa using h3
  · intro id r hg; cases hg
  · intro id _ r _ _ hg; cases hg
  · intro id r _ hg; cases hg
  · intro id r _ hg; cases hg

theorem Keep.toBelow {w w' : World} (h : Keep (fun _ => False) w w') : Below w.heap.size w w' := ⟨h.os, h.tape, h.output, h.size, fun k hk => h.block k hk (fun h => h)⟩

theorem PQ_of {fn : Func} {nt : Nat} {w0 : World} {r : PV} {avs : List AV} (h : RVs P st fn.results.toList avs) {r' : PV} (hv : st.view (final avs) = some r') (he : r' = r) {a : Act} {w : World} (hr : Rep (PFr P fn nt w0 r) st a w) :
    a.defers = [] ∧ ∃ v, (results fn a.tmps).run P w = .ok v w ∧ ∃ u, Ending.returned v = .returned u ∧ Rel (fun _ => False) w r u ∧ Below w0.heap.size w0 w := by
  obtain ⟨η, φ, hr⟩ := hr
  obtain ⟨u, e1, e2⟩ := results_run h hr
  exact ⟨hr.defers, u, e1, u, rfl, he ▸ view_rel hv hr e2, Keep.toBelow hr.keep⟩

theorem Pure.ret {fn : Func} {nt : Nat} {w0 : World} {r : PV} {l : List ResultVar} {avs : List AV} (hl : fn.results = l.toArray) (h : RVs P st l avs) {r' : PV} (hv : st.view (final avs) = some r') (he : r' = r) :
    AC P (PFr P fn nt w0 r) (.code .ret :: k) st := by
  intro a w hr
  refine wp_ret ?_
  rw [cont_ret]
  exact PQ_of (by rw [hl]; simpa using h) hv he hr

theorem Pure.fin {fn : Func} {nt : Nat} {w0 : World} {r : PV} {l : List ResultVar} {avs : List AV} (hl : fn.results = l.toArray) (h : RVs P st l avs) {r' : PV} (hv : st.view (final avs) = some r') (he : r' = r) :
    AC P (PFr P fn nt w0 r) [] st :=
  fun _ _ hr => PQ_of (by rw [hl]; simpa using h) hv he hr

end

section
variable {P : Program} {fr : Fr} {st : St} {ops : Array Oper} {rest : List Oper} {k : List It} {q : Bool}
variable {d : Option Tmp} {t : TypeId} {pos : String} {aft : Array Edge} {g : Option (Nat × Bool)}

/-- int64 arithmetic that does not leave the range. -/
theorem wrap_id {x : Int} (h1 : -9223372036854775808 ≤ x) (h2 : x ≤ 9223372036854775807) : IntKind.i64.wrap x = x := by rw [IntKind.wrap_i64]; omega
theorem Yld.add {ty ty2 : TypeId} {x y : Operand} {a b : Int} (hx : st.ev x = some (.p (.v (.int .i64 a)))) (hy : st.ev y = some (.p (.v (.int .i64 b)))) (h1 : -9223372036854775808 ≤ a + b) (h2 : a + b ≤ 9223372036854775807) :
    Yld P fr ⟨d, .binOp .add ty x y ty2, t, pos, aft, g⟩ st (.p (.v (.int .i64 (a + b)))) :=
  Yld.int hx hy (by simp only [iop, wrap_id h1 h2])
theorem Yld.sub {ty ty2 : TypeId} {x y : Operand} {a b : Int} (hx : st.ev x = some (.p (.v (.int .i64 a)))) (hy : st.ev y = some (.p (.v (.int .i64 b)))) (h1 : -9223372036854775808 ≤ a - b) (h2 : a - b ≤ 9223372036854775807) :
    Yld P fr ⟨d, .binOp .sub ty x y ty2, t, pos, aft, g⟩ st (.p (.v (.int .i64 (a - b)))) :=
  Yld.int hx hy (by simp only [iop, wrap_id h1 h2])
theorem Yld.mul {ty ty2 : TypeId} {x y : Operand} {a b : Int} (hx : st.ev x = some (.p (.v (.int .i64 a)))) (hy : st.ev y = some (.p (.v (.int .i64 b)))) (h1 : -9223372036854775808 ≤ a * b) (h2 : a * b ≤ 9223372036854775807) :
    Yld P fr ⟨d, .binOp .mul ty x y ty2, t, pos, aft, g⟩ st (.p (.v (.int .i64 (a * b)))) :=
  Yld.int hx hy (by simp only [iop, wrap_id h1 h2])
theorem Yld.negN {ty : TypeId} {x : Operand} {a : Int} (hx : st.ev x = some (.p (.v (.int .i64 a)))) (h1 : -9223372036854775808 ≤ -a) (h2 : -a ≤ 9223372036854775807) :
    Yld P fr ⟨d, .unOp .neg ty x, t, pos, aft, g⟩ st (.p (.v (.int .i64 (-a)))) := by
  have := Yld.neg (P := P) (fr := fr) (d := d) (ty := ty) (t := t) (pos := pos) (aft := aft) (g := g) hx
  rwa [wrap_id h1 h2] at this

theorem run_max2 {k : IntKind} (a b : Int) (w : World) : (Builtin.max2 (.int k a) (.int k b)).run P w = .ok (.int k (max a b)) w := by
  simp only [Builtin.max2]
  by_cases h : b > a
  · rw [if_pos h, Int.max_eq_right (by omega)]; rfl
  · rw [if_neg h, Int.max_eq_left (by omega)]; rfl
theorem run_min2 {k : IntKind} (a b : Int) (w : World) : (Builtin.min2 (.int k a) (.int k b)).run P w = .ok (.int k (min a b)) w := by
  simp only [Builtin.min2]
  by_cases h : b < a
  · rw [if_pos h, Int.min_eq_right (by omega)]; rfl
  · rw [if_neg h, Int.min_eq_left (by omega)]; rfl

theorem Yld.max2 {x y : Operand} {at1 : Array TypeId} {k : IntKind} {a b : Int} (hx : st.ev x = some (.p (.v (.int k a)))) (hy : st.ev y = some (.p (.v (.int k b)))) :
    Yld P fr ⟨d, .call { callee := .builtin .max, args := #[x, y], argTypes := at1 }, t, pos, aft, g⟩ st (.p (.v (.int k (max a b)))) :=
  Yld.of_run fun _ _ A _ hr => ⟨.int k (max a b), fun w' _ => by
    have h1 := hr.ev hx
    have h2 := hr.ev hy
    simp only [ARel, Rel] at h1 h2
    have := run_max2 (P := P) (k := k) a b w'
    simp [execOp, resolve, invoke, builtin, h1, h2, Builtin.max_, this], by simp [ARel, Rel]⟩
theorem Yld.min2 {x y : Operand} {at1 : Array TypeId} {k : IntKind} {a b : Int} (hx : st.ev x = some (.p (.v (.int k a)))) (hy : st.ev y = some (.p (.v (.int k b)))) :
    Yld P fr ⟨d, .call { callee := .builtin .min, args := #[x, y], argTypes := at1 }, t, pos, aft, g⟩ st (.p (.v (.int k (min a b)))) :=
  Yld.of_run fun _ _ A _ hr => ⟨.int k (min a b), fun w' _ => by
    have h1 := hr.ev hx
    have h2 := hr.ev hy
    simp only [ARel, Rel] at h1 h2
    have := run_min2 (P := P) (k := k) a b w'
    simp [execOp, resolve, invoke, builtin, h1, h2, Builtin.min_, this], by simp [ARel, Rel]⟩

/-- A test on a slot's Bool, within a region: the two ways, the slot known. -/
theorem AO.splitAt (j : Nat) (c : Bool) (hc : get st.tm j = some (.p (.v (.bool c)))) (ht : c = true → AO P fr ops rest k q (st.put j (.p (.v (.bool true)))))
    (hf : c = false → AO P fr ops rest k q (st.put j (.p (.v (.bool false))))) : AO P fr ops rest k q st := by
  have key : ∀ η φ a w, RepE fr η φ st a w → RepE fr η φ (st.put j (.p (.v (.bool c)))) a w := by
    intro η φ a w hr
    refine ⟨hr.defers, hr.size, ?_, hr.res, hr.disj, hr.low, hr.lt, hr.keep, hr.pin⟩
    intro i av hg
    simp only [St.put, get_cons] at hg
    split at hg
    · next e => subst e; obtain rfl := Option.some.inj hg; exact hr.slots _ _ hc
    · exact hr.slots i av hg
  have main : AO P fr ops rest k q (st.put j (.p (.v (.bool c)))) := by
    cases c with
    | true => exact ht rfl
    | false => exact hf rfl
  cases q with
  | false => exact fun a w ⟨η, φ, hr⟩ => main a w ⟨η, φ, key η φ a w hr⟩
  | true => exact fun η φ a w hr => main η φ a w (key η φ a w hr)

/-- A guarded operation that is left out: the guard wants true, the slot is false. -/
theorem AO.skipT {o : Oper} {d j dj : Nat} (hd : o.dst = some d) (hg : o.guard = some (j, true)) (hj : (ops[j]?).bind (·.dst) = some dj)
    (hc : get st.tm dj = some (.p (.v (.bool false)))) (hlt : Nat.blt d fr.nt = true) (hk : AO P fr ops rest k q (st.put d (.p (.v undef)))) : AO P fr ops (o :: rest) k q st :=
  AO.skip (c := false) hd hg hj hc hlt hk
theorem AO.skipF {o : Oper} {d j dj : Nat} (hd : o.dst = some d) (hg : o.guard = some (j, false)) (hj : (ops[j]?).bind (·.dst) = some dj)
    (hc : get st.tm dj = some (.p (.v (.bool true)))) (hlt : Nat.blt d fr.nt = true) (hk : AO P fr ops rest k q (st.put d (.p (.v undef)))) : AO P fr ops (o :: rest) k q st :=
  AO.skip (c := true) hd hg hj hc hlt hk

theorem AC.condT {x : Operand} {t e : Code} (hx : st.ev x = some (.p (.v (.bool true)))) (h : AC P fr (.code t :: k) st) : AC P fr (.code (.cond x t e) :: k) st :=
  AC.cond true hx (fun _ => h) (fun h => by cases h)
theorem AC.condF {x : Operand} {t e : Code} (hx : st.ev x = some (.p (.v (.bool false)))) (h : AC P fr (.code e :: k) st) : AC P fr (.code (.cond x t e) :: k) st :=
  AC.cond false hx (fun h => by cases h) (fun _ => h)

/-- The address of an element of a slice that is only read: its row is told. -/
theorem Yld.indexSl {ty : TypeId} {x i : Operand} {rs m : Nat} {e : TypeId} {kk : IntKind} {j : Int} {rows : List (List PV)} {r : List PV} (hs : P.underlying ty = some (.slice e)) (hsz : ∀ w, (sizeOf e).run P w = .ok rs w)
    (hx : st.ev x = some (.p (.sl rs rows))) (hi : st.ev i = some (.p (.v (.int kk j)))) (hr : rows[m]? = some r) (hj : j = m) :
    Yld P fr ⟨d, .indexAddr ty x i, t, pos, aft, g⟩ st (.p (.ptr r)) := by
  have hm : m < rows.length := (List.getElem?_eq_some_iff.1 hr).1
  subst hj
  exact Yld.indexAddr hs hsz hx hi (n := rows.length) rfl (by omega) (by omega) (by simp [St.at, hr])
/-- .. of one's own. -/
theorem Yld.indexVec {ty ty' : TypeId} {x i : Operand} {rs m id : Nat} {e : TypeId} {kk : IntKind} {j : Int} {rows : List (List PV)} (hs : P.underlying ty = some (.slice e)) (hsz : ∀ w, (sizeOf e).run P w = .ok rs w)
    (hx : st.ev x = some (.h id)) (hg : get st.hp id = some (.vec ty' rs rows)) (hi : st.ev i = some (.p (.v (.int kk j)))) (hj : j = m) (hm : m < rows.length) :
    Yld P fr ⟨d, .indexAddr ty x i, t, pos, aft, g⟩ st (.el id rs m 0) := by
  subst hj
  exact Yld.indexAddr hs hsz hx hi (n := rows.length) (by simp [St.rows, hg]) (by omega) (by omega) (by simp [St.at, hg])

theorem behind_el {ty id rs m off : Nat} {rows : List (List PV)} {r : List PV} (hg : get st.hp id = some (.vec ty rs rows)) (hr : rows[m]? = some r) : st.behind (.el id rs m off) = some ((r.drop off).map .p) := by
  have : Nat.beq rs rs = true := by simp
  simp only [St.behind, hg, this, hr]
theorem store_el {ty id rs m off : Nat} {rows : List (List PV)} {r : List PV} {vs : List AV} {xs : List PV} (hg : get st.hp id = some (.vec ty rs rows)) (hr : rows[m]? = some r) (hp : pvs vs = some xs) (hb : Nat.ble (off + vs.length) rs = true) :
    st.store vs (.el id rs m off) = some (id, .vec ty rs (rows.set m (spl r off xs))) := by
  have : Nat.beq rs rs = true := by simp
  simp only [St.store, hg, this, hr, hp, hb]

theorem map_row {α : Type} {enc : α → List PV} {xs : List α} {k : Nat} {x : α} (h : xs[k]? = some x) : (xs.map enc)[k]? = some (enc x) := by simp [h]

end
end Go.V
