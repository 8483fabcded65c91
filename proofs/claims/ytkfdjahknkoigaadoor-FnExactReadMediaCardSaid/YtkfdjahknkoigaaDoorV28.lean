/- From a contract that takes the library's variables to one at a world where they are laid. -/
import Derived.Test.YtkfdjahknkoigaaDoorV27
import Derived.HandedShaped
set_option linter.all false
namespace Go.V
open Go Go.RowKit Go.Proofs
structure EnvAt (P : Program) (w : World) : Prop where
  tab : ∃ g, P.globalNamed "internal/strconv.uint64pow10" = some g ∧ g < w.heap.size ∧ Lib.TabIs P w "internal/strconv.uint64pow10" .u64 Lib.pow10Tab
  err : ∃ g tp p, P.globalNamed "strconv.ErrSyntax" = some g ∧ w.var? P "strconv.ErrSyntax" = some #[.iface tp p]
  max : ∃ g m, P.globalNamed "internal/bytealg.MaxLen" = some g ∧ w.cell? ⟨g, 0, none⟩ = some (.int .i64 m)
theorem var_lt {P : Program} {w : World} {n : String} {g : Nat} {cs : Array Value} (hg : P.globalNamed n = some g) (h : w.var? P n = some cs) : g < w.heap.size := by
  unfold World.var? at h
  rw [hg] at h
  simp only [Option.bind_some] at h
  rcases Nat.lt_or_ge g w.heap.size with h' | h'
  · exact h'
  · simp [Array.getElem?_eq_none h'] at h
theorem cell_lt {w : World} {g : Nat} {v : Value} (h : w.cell? ⟨g, 0, none⟩ = some v) : g < w.heap.size := by
  unfold World.cell? at h
  rcases Nat.lt_or_ge g w.heap.size with h' | h'
  · exact h'
  · simp [Array.getElem?_eq_none h'] at h
theorem FnE.hereE {P : Program} {f : FuncId} {args : List PV} {v : Value} (h : FnE (α := Unit) P f (avsOf args) [(0, powRE P)] [0] (fun _ => True) (fun _ => .p (.v v)) (fun _ => [(0, powRE P)])) {w : World} (he : EnvAt P w) : PureAt P w f args (.v v) := by
  intro us hr
  obtain ⟨g, hg, hlt, ht⟩ := he.tab
  obtain ⟨g2, tp, p, hg2, hv2⟩ := he.err
  obtain ⟨g3, m, hg3, hc3⟩ := he.max
  have hS : ∀ k, ¬ SOf (fun _ : Nat => ([] : List Nat)) ((900, Res.cust (extC w [])) :: [(0, powRE P)]) k := by
    rintro k ⟨i, r, _, h2⟩; cases h2
  have hres : ∀ id r, get ((900, Res.cust (extC w [])) :: [(0, powRE P)]) id = some r → RRes (fun _ => .pointer none) (SOf (fun _ : Nat => ([] : List Nat)) ((900, Res.cust (extC w [])) :: [(0, powRE P)])) w (.pointer none) [] r := by
    intro id r h
    rw [get_cons] at h
    split at h
    · obtain rfl := Option.some.inj h
      exact ⟨rfl, rfl, fun k hk => by cases hk⟩
    · rw [get_cons] at h
      split at h
      · obtain rfl := Option.some.inj h
        exact ⟨rfl, rfl, ⟨g, hg, hS g, hlt, ht⟩, ⟨g2, _, hg2, hS g2, var_lt hg2 hv2, hv2, tp, p, rfl⟩, ⟨g3, m, hg3, hS g3, cell_lt hc3, hc3⟩⟩
      · cases h
  have hok : HpOk (fun _ => .pointer none) (fun _ : Nat => ([] : List Nat)) ((900, Res.cust (extC w [])) :: [(0, powRE P)]) w :=
    ⟨hres, (by intro _ _ _ _ _ _ _ h; cases h), (by intro _ _ _ _ h; cases h)⟩
  refine (h w [] _ _ w us hok (arel_avs (RelL.mono (⟨Nat.le_refl _, fun _ _ _ => rfl⟩ : Same (fun _ => False) w w) (fun k _ h => hS k h) _ _ hr))).mono ?_
  rintro e w' ⟨_, _, u, η', φ', he, hok', hr', _, _, hk⟩
  simp only [ARel, Rel] at hr'
  exact ⟨u, he, hr', hk.os, hk.tape, hk.output, hk.size, fun k hk' => hk.block k hk' (hS k)⟩
section
open Go.ChangeShapes Go.WideShapes Go.ChangeAt
variable {H : Type} {enc : TypeId × Value → H}
/-- The kit's wrap, with a further condition on the world and with the world's shape. -/
theorem lift_and_shaped {a : Assume} {C : Checked} {os : Os} {f : FuncId} {fn : Func} {s : ChangeSpec} {conds : List PathCond} {apart fresh handsOn again : Bool} {X : World → Array Value → Prop}
    (hX : ∀ (w w' : World) (args : Array Value), w.heap = w'.heap → X w args → X w' args)
    (own : ownKnob C.prog.godebug = none) (started : os.Started) (noInit : C.prog.inits.idxOf? f = none) (hfn : C.prog.funcs[f]? = some fn)
    (witness : ∃ (w : World) (tape : Tape) (i : Input), w.os = os ∧ (w.forCall tape i).Shaped C.prog ∧ i.vars = [] ∧ Input.okWide C.prog (w.forCall tape i) .any w.heap.size f i ∧
      ((s.pre enc C.prog fn conds apart (w.forCall tape i).memory i.args ∧ X (w.forCall tape i).memory i.args) ∧ sizedMet enc C.prog fn (OpenSpec.ofChange s) apart (w.forCall tape i).memory i.args) ∧ a.holds C.prog (lone (Frame.enter C.prog f i.args .normal) [] (w.forCall tape i)))
    (contract : ∀ (W : World) (base : Nat) (args : Array Value) (ds gs : List (DataW H)) (before : List MemPlace),
      (∀ (j : Nat) t v, fn.params[j]? = some t → args[j]? = some v → Value.okWide C.prog W .any base t v) →
      DataW.Whole enc C.prog fn.params.toList s.vars apart W args.toList ds gs before →
      X W args → W.ShapedOpen C.prog →
      Calls C.prog f args W fun e W' => ∃ v, e = .returned v ∧ s.post enc C.prog fn apart fresh handsOn again W args v W') :
    ReturnsInHanded a C os f .any (fun w args => (s.pre enc C.prog fn conds apart w args ∧ X w args) ∧ sizedMet enc C.prog fn (OpenSpec.ofChange s) apart w args) (s.post enc C.prog fn apart fresh handsOn again) := by
  refine returnsInHanded_of_calls own started noInit witness ?_
  intro w tape i _ hsh _ hok hpre _
  obtain ⟨_, _, _, fn', hfn', _, _, _, _, hval⟩ := hok
  obtain rfl := Option.some.inj (hfn'.symm.trans hfn)
  obtain ⟨⟨⟨ds, gs, before, hw, _⟩, hx⟩, _⟩ := hpre
  have hw' := DataW.Whole.of_heap (w' := w.forCall tape i) (by rfl) hw
  refine (contract (w.forCall tape i) w.heap.size i.args ds gs before hval hw' (hX _ _ _ (by rfl) hx) hsh).mono fun e W' ⟨v, he, hp⟩ => ?_
  subst he
  exact ChangeSpec.post_blind hp
end
end Go.V
