/- The table, the sentinel and the bound of the library's, carried as one thing; numbers that are parsed, texts that are cut. -/
import Derived.Test.YtkfdjahknkoigaaDoorV26
import Derived.Test.YtkfdjahknkoigaaDoorD42
import Derived.Lib.ConvBytes
import Derived.Lib.SmallJoins
set_option linter.all false
namespace Go.V
open Go Go.RowKit Go.Sort Go.Proofs
/-- A variable of a package, out of reach of what one owns. -/
def VarAt (P : Program) (S : Nat → Prop) (w : World) (name : String) (Q : Array Value → Prop) : Prop :=
  ∃ g cs, P.globalNamed name = some g ∧ ¬ S g ∧ g < w.heap.size ∧ w.var? P name = some cs ∧ Q cs
theorem VarAt.mono {P : Program} {S S' : Nat → Prop} {w w' : World} {name : String} {Q : Array Value → Prop} (hw : Same S w w') (hS : ∀ k, k < w.heap.size → S' k → S k) (h : VarAt P S w name Q) : VarAt P S' w' name Q := by
  obtain ⟨g, cs, h1, h2, h3, h4, h5⟩ := h
  exact ⟨g, cs, h1, fun h => h2 (hS g h3 h), Nat.lt_of_lt_of_le h3 hw.size, by rw [var_same h1 (hw.block g h3 h2)]; exact h4, h5⟩
def envC (P : Program) : Cust where
  R := fun S w hd F => hd = .pointer none ∧ F = [] ∧ (∃ g, P.globalNamed "internal/strconv.uint64pow10" = some g ∧ ¬ S g ∧ g < w.heap.size ∧ Lib.TabIs P w "internal/strconv.uint64pow10" .u64 Lib.pow10Tab) ∧
    VarAt P S w "strconv.ErrSyntax" (fun cs => ∃ tp p, cs = #[.iface tp p]) ∧ (∃ g m, P.globalNamed "internal/bytealg.MaxLen" = some g ∧ ¬ S g ∧ g < w.heap.size ∧ w.cell? ⟨g, 0, none⟩ = some (.int .i64 m))
  view := none
  mono := fun hw hS _ ⟨h1, h2, ⟨g, h3, h4, h5, h6⟩, h7, ⟨g8, m8, h81, h82, h83, h84⟩⟩ => ⟨h1, h2, ⟨g, h3, fun h => h4 (hS g h5 h), Nat.lt_of_lt_of_le h5 hw.size, by unfold Lib.TabIs; rw [var_same h3 (hw.block g h5 h4)]; exact h6⟩, h7.mono hw hS, ⟨g8, m8, h81, fun h => h82 (hS g8 h83 h), Nat.lt_of_lt_of_le h83 hw.size, by unfold World.cell? at h84 ⊢; rw [hw.block g8 h83 h82]; exact h84⟩⟩
  shape := fun ⟨h1, _⟩ => .inl ⟨_, h1⟩
  ok := fun h => by cases h
def powRE (P : Program) : Res := .cust (envC P)
/-- A function of the library's that reads no more than these variables: it changes nothing, and hands back what holds no address of ours. -/
theorem env_fn {α : Type} {P : Program} {f : FuncId} {args : List PV} {R : α → Prop} {r : α → PV}
    (h : ∀ (w : World) (us : List Value), RelL (fun _ => False) w args us → Lib.TabIs P w "internal/strconv.uint64pow10" .u64 Lib.pow10Tab → (∃ tp p, w.var? P "strconv.ErrSyntax" = some #[.iface tp p]) → (∃ g m, P.globalNamed "internal/bytealg.MaxLen" = some g ∧ w.cell? ⟨g, 0, none⟩ = some (.int .i64 m)) →
      Calls P f us.toArray w fun e w' => ∃ x u, R x ∧ e = .returned u ∧ Rel (fun k => k < w.heap.size) w' (r x) u ∧ Below w.heap.size w w')
    (hargs : PV.FlatL args) :
    FnE (α := α) P f (avsOf args) [(0, powRE P)] [0] R (fun x => .p (r x)) (fun _ => [(0, powRE P)]) := by
  intro w0 F0 η φ w us hok hrel
  obtain ⟨_, _, ⟨g, _, _, _, ht⟩, ⟨g2, cs2, h21, _, _, h24, tp, p, rfl⟩, ⟨g3, m, h31, _, _, h34⟩⟩ := hok.res 0 _ rfl
  have hr0 : RelL (fun _ => False) w args us := by
    have : ∀ {xs : List PV} {us : List Value}, PV.FlatL xs → ARelL η (SOf φ ((900, Res.cust (extC w0 F0)) :: [(0, powRE P)])) w (avsOf xs) us → RelL (fun _ => False) w xs us := by
      intro xs
      induction xs with
      | nil => intro us _ h; exact h
      | cons x xs ih =>
        intro us hf h
        simp only [avsOf, List.map_cons, ARelL, ARel] at h
        obtain ⟨u, us', rfl, h2, h3⟩ := h
        simp only [PV.FlatL] at hf
        simp only [RelL]
        exact ⟨u, us', rfl, Rel.flat x u hf.1 h2, ih hf.2 h3⟩
    exact this hargs hrel
  refine (h w us hr0 ht ⟨tp, p, h24⟩ ⟨g3, m, h31, h34⟩).mono ?_
  rintro e w' ⟨x, u, hR, rfl, hr, hb⟩
  refine ⟨x, hR, u, η, φ, rfl, hok.below hb, ?_, fun _ _ => rfl, fun i r k h1 h2 => .inl ⟨i, r, h1, h2⟩, Keep.of_below hb⟩
  simp only [ARel]
  refine Rel.mono ⟨Nat.le_refl _, fun _ _ _ => rfl⟩ (fun k _ hk => ?_) _ _ hr
  obtain ⟨i, r9, h1, h2⟩ := hk
  exact hok.lt i r9 k h1 h2

/-- An interface's value against the literal nil. -/
def neNil : Value → Bool
  | .nilIface => false
  | _ => true
theorem Yld.neNil {P : Program} {fr : Fr} {st : St} {d : Option Tmp} {t : TypeId} {pos : String} {aft : Array Edge} {g : Option (Nat × Bool)} {ty ty2 : TypeId} {x : Operand} {u : Value} {ms : Array (String × TypeId)} (ht : P.underlying ty = some (.interface ms)) (hx : st.ev x = some (.p (.v u)))
    (hu : u = .nilIface ∨ ∃ tp p, u = .iface tp p) : Yld P fr ⟨d, .binOp .neq ty x (.const .nilIface) ty2, t, pos, aft, g⟩ st (.p (.v (.bool (Go.V.neNil u)))) :=
  Yld.of_run fun _ _ A _ hr => ⟨.bool (Go.V.neNil u), fun w' _ => by
    have h1 := hr.ev hx
    simp only [ARel, Rel] at h1
    have h2 : A.eval (.const .nilIface) = .nilIface := rfl
    simp only [execOp, h1, h2]
    rcases hu with rfl | ⟨tp, p, rfl⟩
    · have h : ∀ n : Nat, (Op.equalIn (n + 1) ty .nilIface .nilIface).run P w' = .ok true w' := fun n => by simp [Op.equalIn, run_underlying ht]
      simp [eqGuard, binOp, Op.equal, Op.maxDepth, h 9999, Go.V.neNil]
    · have h : ∀ n : Nat, (Op.equalIn (n + 1) ty (.iface tp p) .nilIface).run P w' = .ok false w' := fun n => by simp [Op.equalIn, run_underlying ht]
      simp [eqGuard, binOp, Op.equal, Op.maxDepth, h 9999, Go.V.neNil], by simp [ARel, Rel]⟩
theorem fmt_fnE {P : Program} {f : FuncId} (h : FmtInt P f) {n : Int} (h0 : -9223372036854775808 ≤ n) (h1 : n ≤ 9223372036854775807) :
    FnE (α := Unit) P f [.p (.v (.int .i64 n)), .p (.v (.int .i64 10))] [(0, powRE P)] [0] (fun _ => True) (fun _ => .p (.v (str (Lib.itoa n)))) (fun _ => [(0, powRE P)]) := by
  refine env_fn (args := [.v (.int .i64 n), .v (.int .i64 10)]) (r := fun _ => .v (str (Lib.itoa n))) (fun w us hr ht _ _ => ?_) (by simp [PV.FlatL, PV.Flat])
  simp only [RelL, Rel] at hr
  obtain ⟨_, us', rfl, rfl, _, us2, rfl, rfl, rfl⟩ := hr
  refine (h.run n h0 h1 w ht).mono ?_
  rintro e w' ⟨rfl, k, os, rfl⟩
  exact ⟨(), _, trivial, rfl, by simp only [Rel]; rfl, Lib.below_grow _ w (Nat.le_refl _) k os⟩
structure ParInt (P : Program) (f : FuncId) : Prop where
  ok : ∀ (s : ByteArray), s.size ≤ 9223372036854775806 → ∀ (v : Int), Lib.parseIntB 64 s.data.toList = .ok v → ∀ (w : World),
    Calls P f #[.string s, .int .i64 10, .int .i64 64] w fun e w' => e = .returned (.tuple #[.int .i64 v, .nilIface]) ∧ (w' = w ∨ ∃ k t, w' = Lib.bytesWorld w k t)
  bad : ∀ (s : ByteArray), s.size ≤ 281474976710656 → Lib.parseIntB 64 s.data.toList = Go.Lib.NumEnd.syntax → ∀ (tp : TypeId) (p : Value) (w : World), w.var? P "strconv.ErrSyntax" = some #[.iface tp p] →
    Calls P f #[.string s, .int .i64 10, .int .i64 64] w fun e w' => (∃ t2 p2, e = .returned (.tuple #[.int .i64 0, .iface t2 p2])) ∧ Below w.heap.size w w'
def parR (s : List UInt8) (x : Int × Value) : Prop :=
  (x.2 = .nilIface ∧ x.1.natAbs < 9223372036854775808 ∧ readDec s = if Lib.itoa x.1 = s then some x.1 else none) ∨ ((∃ tp p, x.2 = .iface tp p) ∧ x.1 = 0 ∧ readDec s = none)
theorem parR.iface {s : List UInt8} {v : Int} {u : Value} (h : parR s (v, u)) : u = .nilIface ∨ ∃ tp p, u = .iface tp p := by
  rcases h with ⟨h, _⟩ | ⟨h, _⟩
  · exact .inl h
  · exact .inr h
theorem parR.lim {s : List UInt8} {v : Int} {u : Value} (h : parR s (v, u)) : -9223372036854775808 ≤ v ∧ v ≤ 9223372036854775807 := by
  rcases h with ⟨_, h, _⟩ | ⟨_, h, _⟩ <;> simp only at h <;> omega
theorem par_fnE {P : Program} {f : FuncId} (h : ParInt P f) {s : List UInt8} (hl : 1 ≤ (mag s).length ∧ (mag s).length ≤ 18) :
    FnE (α := Int × Value) P f [.p (.v (str s)), .p (.v (.int .i64 10)), .p (.v (.int .i64 64))] [(0, powRE P)] [0] (fun ⟨v, u⟩ => parR s (v, u)) (fun ⟨v, u⟩ => .p (.tup [.v (.int .i64 v), .v u])) (fun ⟨_, _⟩ => [(0, powRE P)]) := by
  have hs : s.length ≤ 19 := by
    unfold mag at hl
    split at hl
    · cases s with
      | nil => simp at hl
      | cons a r => simp only [List.tail_cons, List.length_cons] at hl ⊢; omega
    · omega
  refine env_fn (args := [.v (str s), .v (.int .i64 10), .v (.int .i64 64)]) (α := Int × Value) (R := fun ⟨v, u⟩ => parR s (v, u)) (r := fun ⟨v, u⟩ => .tup [.v (.int .i64 v), .v u]) (fun w us hr _ hv _ => ?_) (by simp [PV.FlatL, PV.Flat])
  simp only [RelL, Rel] at hr
  obtain ⟨_, us', rfl, rfl, _, us2, rfl, rfl, _, us3, rfl, rfl, rfl⟩ := hr
  obtain ⟨tp, p, hv⟩ := hv
  have hsz : (ByteArray.mk s.toArray).size ≤ 19 := by simpa [ByteArray.size] using hs
  rcases parse_read hl with ⟨v, hv1, hv2, hv3⟩ | ⟨h1, h2⟩
  · refine (h.ok ⟨s.toArray⟩ (by omega) v (by simpa using hv2) w).mono ?_
    rintro e w' ⟨rfl, hw⟩
    refine ⟨(v, .nilIface), _, .inl ⟨rfl, hv1, hv3⟩, rfl, ?_, ?_⟩
    · simp only [Rel, RelL]; exact ⟨#[.int .i64 v, .nilIface], rfl, _, _, rfl, rfl, _, _, rfl, rfl, rfl⟩
    · rcases hw with rfl | ⟨k, t, rfl⟩
      · exact Below.refl _ _
      · exact Joins.below_bytesWorld _ _ _ _ (Nat.le_refl _)
  · refine (h.bad ⟨s.toArray⟩ (by omega) (by simpa using h1) tp p w hv).mono ?_
    rintro e w' ⟨⟨t2, p2, rfl⟩, hw⟩
    refine ⟨(0, .iface t2 p2), _, .inr ⟨⟨_, _, rfl⟩, rfl, h2⟩, rfl, ?_, hw⟩
    simp only [Rel, RelL]; exact ⟨#[.int .i64 0, .iface t2 p2], rfl, _, _, rfl, rfl, _, _, rfl, rfl, rfl⟩
theorem cut_fnE {P : Program} {f : FuncId} {g0 : Nat} (hg : P.globalNamed "internal/bytealg.MaxLen" = some g0)
    (h : ∀ (s sep : ByteArray) (m : Int) (w : World), s.size < 4294967281 → w.cell? ⟨g0, 0, none⟩ = some (.int .i64 m) → Calls P f #[.string s, .string sep] w fun e w' => e = .returned (.tuple #[.string ⟨(Lib.cut s.data.toList sep.data.toList).1.toArray⟩, .string ⟨(Lib.cut s.data.toList sep.data.toList).2.1.toArray⟩, .bool (Lib.cut s.data.toList sep.data.toList).2.2]) ∧ ∃ n, w' = w.drewN n)
    {s : List UInt8} {c : UInt8} (hs : s.length ≤ 1048576) :
    FnE (α := Unit) P f [.p (.v (str s)), .p (.v (str [c]))] [(0, powRE P)] [0] (fun _ => True) (fun _ => .p (.tup [.v (str (Lib.cut s [c]).1), .v (str (Lib.cut s [c]).2.1), .v (.bool (Lib.cut s [c]).2.2)])) (fun _ => [(0, powRE P)]) := by
  refine env_fn (args := [.v (str s), .v (str [c])]) (r := fun _ => .tup [.v (str (Lib.cut s [c]).1), .v (str (Lib.cut s [c]).2.1), .v (.bool (Lib.cut s [c]).2.2)]) (fun w us hr _ _ hm => ?_) (by simp [PV.FlatL, PV.Flat])
  simp only [RelL, Rel] at hr
  obtain ⟨_, us', rfl, rfl, _, us2, rfl, rfl, rfl⟩ := hr
  obtain ⟨g, m, h1, h2⟩ := hm
  rw [hg] at h1
  obtain rfl := Option.some.inj h1
  have hsz : (ByteArray.mk s.toArray).size < 4294967281 := by simp [ByteArray.size]; omega
  refine (h ⟨s.toArray⟩ ⟨[c].toArray⟩ m w hsz h2).mono ?_
  rintro e w' ⟨rfl, n, rfl⟩
  refine ⟨(), _, trivial, rfl, ?_, ?_⟩
  · simp only [Rel, RelL]; exact ⟨_, rfl, _, _, rfl, rfl, _, _, rfl, rfl, _, _, rfl, rfl, rfl⟩
  · exact ⟨rfl, rfl, rfl, Nat.le_refl _, fun _ _ => rfl⟩
theorem trim_pure {P : Program} {f : FuncId} (h : ∀ (s p : ByteArray) (w : World), Calls P f #[.string s, .string p] w fun e w' => e = .returned (.string ⟨(Lib.trimPrefix s.data.toList p.data.toList).toArray⟩) ∧ w' = w) {s : List UInt8} :
    Pure P f [.v (str s), .v (str [45])] (.v (str (mag s))) := by
  intro w us hr
  simp only [RelL, Rel] at hr
  obtain ⟨_, us', rfl, rfl, _, us2, rfl, rfl, rfl⟩ := hr
  refine (h ⟨s.toArray⟩ ⟨[45].toArray⟩ w).mono ?_
  rintro e w' ⟨rfl, rfl⟩
  refine ⟨_, rfl, ?_, Below.refl _ _⟩
  simp only [Rel]
  have : Lib.trimPrefix s [45] = mag s := by
    unfold Lib.trimPrefix Lib.hasPrefix mag
    cases s with
    | nil => rfl
    | cons a r => 
      by_cases ha : a = 45
      · simp [List.isPrefixOf, ha]
      · simp [List.isPrefixOf, ha, Ne.symm ha]
  simp only [this]
  rfl
/-- The library's cut into parts: a slice that one only reads. -/
theorem split_fnE {P : Program} {f : FuncId} {g0 : Nat} {ty : TypeId} (hg : P.globalNamed "internal/bytealg.MaxLen" = some g0)
    (h : ∀ (s sep : ByteArray) (m : Int) (w : World), s.size < 4294967281 → w.cell? ⟨g0, 0, none⟩ = some (.int .i64 m) → 1 ≤ sep.size → Calls P f #[.string s, .string sep] w fun e w' =>
      e = .returned (.slice (some ⟨w.heap.size, 0, none⟩) (Lib.countB s sep + 1) (Lib.countB s sep + 1)) ∧ w' = w.alloc (.cells ((Lib.splitB sep 0 (Lib.countB s sep) s).map Value.string).toArray ty))
    {s : List UInt8} {c : UInt8} (hs : s.length ≤ 1048576) :
    FnE (α := Unit) P f [.p (.v (str s)), .p (.v (str [c]))] [(0, powRE P)] [0] (fun _ => True) (fun _ => .p (.sl 1 ((sps c s).map Go.V.encS))) (fun _ => [(0, powRE P)]) := by
  refine env_fn (args := [.v (str s), .v (str [c])]) (r := fun _ => .sl 1 ((sps c s).map Go.V.encS)) (fun w us hr _ _ hm => ?_) (by simp [PV.FlatL, PV.Flat])
  simp only [RelL, Rel] at hr
  obtain ⟨_, us', rfl, rfl, _, us2, rfl, rfl, rfl⟩ := hr
  obtain ⟨g, m, h1, h2⟩ := hm
  rw [hg] at h1
  obtain rfl := Option.some.inj h1
  have hsz : (ByteArray.mk s.toArray).size < 4294967281 := by simp [ByteArray.size]; omega
  refine (h ⟨s.toArray⟩ ⟨[c].toArray⟩ m w hsz h2 (by simp [ByteArray.size])).mono ?_
  rintro e w' ⟨rfl, rfl⟩
  obtain ⟨e1, e2⟩ := splitB_sps c s
  refine ⟨(), _, trivial, rfl, ?_, ?_⟩
  · simp only [Rel]
    have hlen : (sps c s).length = Lib.countB ⟨s.toArray⟩ ⟨[c].toArray⟩ + 1 := e2.symm
    refine ⟨some ⟨w.heap.size, 0, none⟩, _, by rw [List.length_map, hlen], by rw [List.length_map, hlen]; exact Nat.le_refl _, .inr ⟨w.heap.size, 0, rfl, Nat.lt_irrefl _, by show w.heap.size < (w.heap.push _).size; rw [Array.size_push]; omega, ?_⟩⟩
    refine relRows_of_at _ _ (fun r hr => ?_) (fun i r hr => ?_)
    · obtain ⟨x, _, rfl⟩ := List.mem_map.1 hr; rfl
    · rw [List.getElem?_map] at hr
      cases hx : (sps c s)[i]? with
      | none => rw [hx] at hr; cases hr
      | some x =>
        rw [hx] at hr
        obtain rfl := Option.some.inj hr
        simp only [Go.V.encS, RelAt, and_true]
        refine ⟨str x, ?_, by simp only [Rel]⟩
        rw [Nat.zero_add, Nat.mul_one, World.cell?_alloc_new, e1, List.getElem?_toArray, List.getElem?_map, hx]; rfl
  · exact Below.alloc (Below.refl _ _) (Nat.le_refl _) _
theorem parR.ne {s : List UInt8} {v : Int} {u : Value} (h : parR s (v, u)) (hn : neNil u = true) : readDec s = none := by
  rcases h with ⟨h, _⟩ | ⟨_, _, h⟩
  · simp only at h; subst h; cases hn
  · exact h
theorem parR.eq {s : List UInt8} {v : Int} {u : Value} (h : parR s (v, u)) (hn : neNil u = false) : readDec s = if Lib.itoa v = s then some v else none := by
  rcases h with ⟨_, _, h⟩ | ⟨⟨tp, p, h⟩, _⟩
  · exact h
  · simp only at h; subst h; cases hn
theorem cut_len (s : List UInt8) (c : UInt8) : (Lib.cut s [c]).1.length ≤ s.length ∧ (Lib.cut s [c]).2.1.length ≤ s.length := by
  rcases sps_cases c s with h | ⟨a, b, h, rfl⟩
  · rw [cut_none h]; simp
  · rw [cut_hit h]; simp only [List.length_append, List.length_cons]; omega
end Go.V
