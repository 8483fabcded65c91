/- A table of the library's that lies in a package-level variable, carried as a thing; numbers as text. -/
import Derived.Test.YtdgjlkdcklfieaaDoorV24
import Derived.Test.YtdgjlkdcklfieaaDoorV9
import Derived.Lib.AppendIntMem
set_option linter.all false
namespace Go.V
open Go Go.RowKit Go.Sort Go.Proofs
theorem HpOk.below {η : Nat → Value} {φ : Nat → List Nat} {hp : List (Nat × Res)} {w w' : World} (hok : HpOk η φ hp w) (hb : Below w.heap.size w w') : HpOk η φ hp w' where
  res := fun id r hg => RRes.mono (Same.of_below hb) (fun _ _ => fun x => x) (fun k hk => hb.block k (hok.lt id r k hg hk)) r (fun _ _ => rfl) (hok.res id r hg)
  disj := hok.disj
  lt := fun id r k hg hk => Nat.lt_of_lt_of_le (hok.lt id r k hg hk) hb.size
theorem Keep.of_below {S0 : Nat → Prop} {w w' : World} (hb : Below w.heap.size w w') : Keep S0 w w' := ⟨hb.os, hb.tape, hb.output, hb.size, fun k hk _ => hb.block k hk⟩
theorem var_same {P : Program} {w w' : World} {name : String} {g : Nat} (hg : P.globalNamed name = some g) (h : w'.heap[g]? = w.heap[g]?) : w'.var? P name = w.var? P name := by
  unfold World.var?; rw [hg]; simp only [Option.bind_some]; rw [h]
def tabC (P : Program) (name : String) (k : IntKind) (zs : List Int) : Cust where
  R := fun S w hd F => hd = .pointer none ∧ F = [] ∧ ∃ g, P.globalNamed name = some g ∧ ¬ S g ∧ g < w.heap.size ∧ Lib.TabIs P w name k zs
  view := none
  mono := fun hw hS _ ⟨h1, h2, g, h3, h4, h5, h6⟩ => ⟨h1, h2, g, h3, fun h => h4 (hS g h5 h), Nat.lt_of_lt_of_le h5 hw.size, by unfold Lib.TabIs; rw [var_same h3 (hw.block g h5 h4)]; exact h6⟩
  shape := fun ⟨h1, _⟩ => .inl ⟨_, h1⟩
  ok := fun h => by cases h
def powR (P : Program) : Res := .cust (tabC P "internal/strconv.uint64pow10" .u64 Lib.pow10Tab)
structure FmtInt (P : Program) (f : FuncId) : Prop where
  run : ∀ (n : Int), -9223372036854775808 ≤ n → n ≤ 9223372036854775807 → ∀ (w : World), Lib.TabIs P w "internal/strconv.uint64pow10" .u64 Lib.pow10Tab →
    Calls P f #[.int .i64 n, .int .i64 10] w fun e w' => e = .returned (.string ⟨(Lib.itoa n).toArray⟩) ∧ ∃ k os, w' = Sort.grow (w.drewN k) os
theorem fmt_fn {P : Program} {f : FuncId} (h : FmtInt P f) {n : Int} (h0 : -9223372036854775808 ≤ n) (h1 : n ≤ 9223372036854775807) :
    FnE (α := Unit) P f [.p (.v (.int .i64 n)), .p (.v (.int .i64 10))] [(0, powR P)] [0] (fun _ => True) (fun _ => .p (.v (str (Lib.itoa n)))) (fun _ => [(0, powR P)]) := by
  intro w0 F0 η φ w us hok hrel
  simp only [ARelL, ARel, Rel] at hrel
  obtain ⟨_, us', rfl, rfl, _, us2, rfl, rfl, rfl⟩ := hrel
  obtain ⟨_, _, g, _, _, _, ht⟩ := hok.res 0 _ rfl
  refine (h.run n h0 h1 w ht).mono ?_
  rintro e w' ⟨rfl, k, os, rfl⟩
  have hb : Below w.heap.size w (Sort.grow (w.drewN k) os) := Lib.below_grow _ w (Nat.le_refl _) k os
  exact ⟨(), trivial, _, η, φ, rfl, hok.below hb, by simp only [ARel, Rel]; rfl, fun _ _ => rfl, fun i r k h1 h2 => .inl ⟨i, r, h1, h2⟩, Keep.of_below hb⟩
theorem fmt_small {P : Program} {f : FuncId} (h : ∀ (i : Nat), i < 100 → ∀ (w : World), Calls P f #[.int .i64 i, .int .i64 10] w fun e w' => e = .returned (.string ⟨(Lib.decDigits i).toArray⟩) ∧ w' = w) {n : Int} (h0 : 0 ≤ n) (h1 : n < 100) :
    Pure P f [.v (.int .i64 n), .v (.int .i64 10)] (.v (str (Lib.itoa n))) := by
  intro w us hrel
  simp only [RelL, Rel] at hrel
  obtain ⟨_, us', rfl, rfl, _, us2, rfl, rfl, rfl⟩ := hrel
  have e1 : n = ((n.toNat : Nat) : Int) := by omega
  have := h n.toNat (by omega) w
  rw [← e1] at this
  refine this.mono ?_
  rintro e w' ⟨rfl, rfl⟩
  refine ⟨_, rfl, ?_, Below.refl _ _⟩
  simp only [Rel]
  unfold str Lib.itoa
  rw [if_neg (by omega)]

/-- A contract at one world. -/
def PureAt (P : Program) (w : World) (f : FuncId) (args : List PV) (r : PV) : Prop :=
  ∀ (us : List Value), RelL (fun _ => False) w args us → Calls P f us.toArray w fun e w' => ∃ u, e = .returned u ∧ Rel (fun _ => False) w' r u ∧ Below w.heap.size w w'
theorem Pure.here {P : Program} {f : FuncId} {args : List PV} {r : PV} (h : Pure P f args r) (w : World) : PureAt P w f args r := fun us hr => h w us hr
def avsOf : List PV → List AV := List.map .p
theorem arel_avs {η : Nat → Value} {S : Nat → Prop} {w : World} : ∀ {xs : List PV} {us : List Value}, RelL S w xs us → ARelL η S w (avsOf xs) us
  | [], _, h => h
  | _ :: _, _, h => by
    simp only [RelL] at h
    obtain ⟨u, us', h1, h2, h3⟩ := h
    exact ⟨u, us', h1, h2, arel_avs h3⟩
/-- From a contract that takes the table to one at a world where it is laid. -/
theorem FnE.here {P : Program} {f : FuncId} {args : List PV} {v : Value} (h : FnE (α := Unit) P f (avsOf args) [(0, powR P)] [0] (fun _ => True) (fun _ => .p (.v v)) (fun _ => [(0, powR P)])) {w : World} {g : Nat}
    (hg : P.globalNamed "internal/strconv.uint64pow10" = some g) (hlt : g < w.heap.size) (ht : Lib.TabIs P w "internal/strconv.uint64pow10" .u64 Lib.pow10Tab) : PureAt P w f args (.v v) := by
  intro us hr
  have hS : ∀ k, ¬ SOf (fun _ : Nat => ([] : List Nat)) ((900, Res.cust (extC w [])) :: [(0, powR P)]) k := by
    rintro k ⟨i, r, _, h2⟩; cases h2
  have hres : ∀ id r, get ((900, Res.cust (extC w [])) :: [(0, powR P)]) id = some r → RRes (fun _ => .pointer none) (SOf (fun _ : Nat => ([] : List Nat)) ((900, Res.cust (extC w [])) :: [(0, powR P)])) w (.pointer none) [] r := by
    intro id r h
    rw [get_cons] at h
    split at h
    · obtain rfl := Option.some.inj h
      exact ⟨rfl, rfl, fun k hk => by cases hk⟩
    · rw [get_cons] at h
      split at h
      · obtain rfl := Option.some.inj h
        exact ⟨rfl, rfl, g, hg, hS g, hlt, ht⟩
      · cases h
  have hok : HpOk (fun _ => .pointer none) (fun _ : Nat => ([] : List Nat)) ((900, Res.cust (extC w [])) :: [(0, powR P)]) w :=
    ⟨hres, (by intro _ _ _ _ _ _ _ h; cases h), (by intro _ _ _ _ h; cases h)⟩
  refine (h w [] _ _ w us hok (arel_avs (RelL.mono (⟨Nat.le_refl _, fun _ _ _ => rfl⟩ : Same (fun _ => False) w w) (fun k _ h => hS k h) _ _ hr))).mono ?_
  rintro e w' ⟨_, _, u, η', φ', he, hok', hr', _, _, hk⟩
  simp only [ARel, Rel] at hr'
  exact ⟨u, he, hr', hk.os, hk.tape, hk.output, hk.size, fun k hk' => hk.block k hk' (hS k)⟩
section
open Go.ChangeShapes Go.WideShapes Go.ChangeAt
variable {H : Type} {enc : TypeId × Value → H} {P : Program} {w : World}
/-- A law's contract, out of a contract in the calculus. -/
theorem law_postAt {f : Func} {fid : FuncId} {s : ChangeSpec} {args : Array Value} {ds gs : List (DataW H)} {before : List MemPlace} {base n : Nat} {tys : List Ty} {tb : TypeId} (hl : laidOutB P = true)
    (hrdB : (f.params.toList.all fun t => P.readableRec t && decide (t < P.types.size)) = true) (hvars : s.vars = []) (hres : f.resultTypes = #[tb]) (htb : P.underlying tb = some .bool) (hty : tysAll P n f.params.toList = some tys)
    (hspec : ∀ ds : List (DataW H), ds.length = f.params.toList.length → (s.fn H (ds ++ [])).results = [.lit (.bool true)] ∧ (s.fn H (ds ++ [])).args = ds ∧ (s.fn H (ds ++ [])).vars = [])
    (hval : ∀ (j : Nat) t v, f.params[j]? = some t → args[j]? = some v → Value.okWide P w .any base t v)
    (hW : DataW.Whole enc P f.params.toList s.vars false w args.toList ds gs before)
    (hp : ∀ xs, HasAll tys xs → PureAt P w fid xs (.v (.bool true))) :
    Calls P fid args w fun e W' => ∃ v, e = .returned v ∧ s.post enc P f false true false false w args v W' := by
  have hrd : ∀ t ∈ f.params.toList, P.readableRec t = true ∧ t < P.types.size := fun t ht => by
    have := List.all_eq_true.1 hrdB t ht
    simpa using this
  have hW0 := hW
  have hlt := hW.lt
  obtain ⟨p, q, hA, hV, rfl, hfz, hnd⟩ := hW
  rw [hvars] at hV
  have hg : gs = [] ∧ q = [] := by
    cases gs with
    | nil => exact ⟨rfl, hV⟩
    | cons => exact hV.elim
  obtain ⟨rfl, rfl⟩ := hg
  obtain ⟨xs, h1, h2⟩ := args_rel f.params.toList tys args.toList ds p hty hA (fun j t v h1 h2 => hval j t v (by simpa using h1) (by simpa using h2))
  have hc := hp xs h2 args.toList h1
  simp only [Array.toArray_toList] at hc
  refine hc.mono fun e W' ⟨u, he, hu, hb⟩ => ?_
  simp only [Rel] at hu
  subst hu
  have hlen : ds.length = f.params.toList.length := by
    have : ∀ (ts : List TypeId) (vs : List Value) (ds : List (DataW H)) (ps : List MemPlace), DataW.TrodAll enc P w 0 (fun _ => true) true ts vs ds ps → ds.length = ts.length := by
      intro ts
      induction ts with
      | nil => intro vs ds ps h; cases vs <;> cases ds <;> first | rfl | exact h.elim
      | cons t ts ih =>
        intro vs ds ps h
        match vs, ds, h with
        | v :: vs, d :: ds, h => obtain ⟨p, q, _, h2, _⟩ := h; simp [ih vs ds q h2]
    exact this _ _ _ _ hA
  obtain ⟨s1, s2, s3⟩ := hspec ds hlen
  refine ⟨_, he, ds, [], p ++ [], [], p, [], hW0, ?_, ?_, ?_, hb.frame _, fun h => by cases h⟩
  · rw [s1, hres]
    exact trodAll_mk1 (shut_bool htb true)
  · rw [s2]
    exact trodAll_below hl hb _ _ _ _ hrd hA (fun x hx => hlt x (by simp [hx]))
  · rw [s3, hvars]; rfl

end
end Go.V
