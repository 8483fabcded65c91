/- The calculus' rules: division, any operation of two values, function values, struct literals and struct comparison. -/
import Derived.Test.YtbbechcbdeknnaaV10
import Derived.Laws.StructEq
set_option linter.all false
namespace Go.V
open Go Go.RowKit

section
variable {P : Program} {fr : Fr} {st : St} {ops : Array Oper} {rest : List Oper} {k : List It} {q : Bool}
variable {d : Option Tmp} {t : TypeId} {pos : String} {aft : Array Edge} {g : Option (Nat × Bool)}

theorem tdiv_range {a b : Int} (h1 : -9223372036854775808 ≤ a) (h2 : a ≤ 9223372036854775807) (hb : 0 < b) : -9223372036854775808 ≤ a.tdiv b ∧ a.tdiv b ≤ 9223372036854775807 := by
  by_cases h : 0 ≤ a
  · rw [Int.tdiv_eq_ediv_of_nonneg h]
    have h3 : 0 ≤ a / b := Int.ediv_nonneg h (by omega)
    have h4 : a / b ≤ a := Int.ediv_le_self b h
    omega
  · have e : a.tdiv b = -((-a) / b) := by
      rw [← Int.tdiv_eq_ediv_of_nonneg (by omega : 0 ≤ -a), Int.neg_tdiv, Int.neg_neg]
    rw [e]
    have h3 : 0 ≤ (-a) / b := Int.ediv_nonneg (by omega) (by omega)
    have h4 : (-a) / b ≤ -a := Int.ediv_le_self b (by omega)
    omega

theorem Yld.quoP {ty ty2 : TypeId} {x y : Operand} {a b : Int} (hx : st.ev x = some (.p (.v (.int .i64 a)))) (hy : st.ev y = some (.p (.v (.int .i64 b))))
    (hb : 0 < b) (h1 : -9223372036854775808 ≤ a) (h2 : a ≤ 9223372036854775807) : Yld P fr ⟨d, .binOp .quo ty x y ty2, t, pos, aft, g⟩ st (.p (.v (.int .i64 (a.tdiv b)))) := by
  have h := Yld.quo (P := P) (fr := fr) (d := d) (ty := ty) (ty2 := ty2) (t := t) (pos := pos) (aft := aft) (g := g) hx hy (by omega : b ≠ 0)
  have hr := tdiv_range h1 h2 hb
  rwa [wrap_id hr.1 hr.2] at h

/-- Any operation of two plain values. -/
theorem Yld.binV {op : BinOp} {ty ty2 : TypeId} {x y : Operand} {av bv : AV} {A B : PV} {a b u : Value} (hx : st.ev x = some av) (hy : st.ev y = some bv) (va : st.view av = some A) (vb : st.view bv = some B) (ha : conc A = some a) (hb : conc B = some b)
    (h : ∀ w : World, (do eqGuard op ty x y a b; binOp op ty a b : Sem Value).run P w = .ok u w) : Yld P fr ⟨d, .binOp op ty x y ty2, t, pos, aft, g⟩ st (.p (.v u)) :=
  Yld.of_run fun _ _ A' _ hr => ⟨u, fun w' _ => by
    have h1 := view_rel va hr (hr.ev hx)
    have h2 := view_rel vb hr (hr.ev hy)
    rw [(conc_spec A a ha _)] at h1
    rw [(conc_spec B b hb _)] at h2
    simp only [execOp, h1, h2]
    rw [Sem.run_bind, h w']
    rfl, by simp [ARel, Rel]⟩
/-- Any conversion of a plain value. -/
theorem Yld.convV {src dst : TypeId} {x : Operand} {av : AV} {A : PV} {a u : Value} (hx : st.ev x = some av) (va : st.view av = some A) (ha : conc A = some a) (h : ∀ w : World, (convert src dst a).run P w = .ok u w) :
    Yld P fr ⟨d, .convert src dst x, t, pos, aft, g⟩ st (.p (.v u)) :=
  Yld.of_run fun _ _ A' _ hr => ⟨u, fun w' _ => by
    have h1 := view_rel va hr (hr.ev hx)
    rw [(conc_spec A a ha _)] at h1
    simp [execOp, h1, h w'], by simp [ARel, Rel]⟩

/-- A function value with what it captures. -/
theorem Yld.makeFunc {f : FuncId} {caps : List Operand} {avs : List AV} (hc : st.evL caps = some avs) :
    Yld P fr ⟨d, .makeFunc (.func f) #[] caps.toArray, t, pos, aft, g⟩ st (.clo f avs) :=
  Yld.of_run fun _ _ A _ hr => ⟨.func (.func f) #[] (caps.map A.eval).toArray, fun w' _ => by simp [execOp, Instr.makeFunc], by
    simp only [ARel]; exact ⟨_, rfl, by simpa using evL_rel hr caps avs hc⟩⟩

/-- A struct literal of plain values: its cells, told by a run. -/
def partsV (st : St) : List (Nat × Operand) → Option (List (Nat × Value))
  | [] => some []
  | (i, x) :: l => match st.ev x with
    | some av => match st.view1 av with
      | some A => match conc A with
        | some a => match partsV st l with
          | some r => some ((i, a) :: r)
          | none => none
        | none => none
      | none => none
    | none => none
theorem partsV_rel {η : Nat → Value} {φ : Nat → List Nat} {a : Act} {w : World} (hr : RepE fr η φ st a w) : ∀ (l : List (Nat × Operand)) (r : List (Nat × Value)), partsV st l = some r → l.map (fun (i, x) => (i, a.eval x)) = r
  | [], r, h => by simp only [partsV, Option.some.injEq] at h; subst h; rfl
  | (i, x) :: l, r, h => by
    simp only [partsV] at h
    split at h
    · next av hav =>
      split at h
      · next A hA =>
        split at h
        · next v hv =>
          split at h
          · next r' hr' =>
            simp only [Option.some.injEq] at h; subst h
            have h1 := view1_rel hA hr (hr.ev hav)
            rw [(conc_spec A v hv _)] at h1
            simp only [List.map_cons, h1, partsV_rel hr l r' hr']
          · cases h
        · cases h
      · cases h
    · cases h
theorem Yld.build {ty : TypeId} {l : List (Nat × Operand)} {vs : List (Nat × Value)} {cs : List PV} {us : List Value} (hp : partsV st l = some vs) (hc : concL cs = some us) (h : ∀ w : World, (Instr.build ty vs.toArray).run P w = .ok (.agg us.toArray) w) :
    Yld P fr ⟨d, .build ty l.toArray, t, pos, aft, g⟩ st (.p (.agg cs)) :=
  Yld.of_run fun _ _ A _ hr => ⟨.agg us.toArray, fun w' _ => by
    have e : l.toArray.map (fun (i, x) => (i, A.eval x)) = vs.toArray := by rw [← partsV_rel hr l vs hp]; simp
    simp only [execOp, e]
    rw [Sem.run_bind, h w']
    rfl, by simp only [ARel, Rel]; exact ⟨us.toArray, rfl, (concL_spec cs us hc us).2 rfl⟩⟩


/-- Two results or more. -/
theorem PQ_ofT {fn : Func} {nt : Nat} {w0 : World} {r : PV} {x y : AV} {avs : List AV} (h : RVs P st fn.results.toList (x :: y :: avs)) {pvl : List PV} (hv : st.viewL (x :: y :: avs) = some pvl) (he : PV.tup pvl = r) {a : Act} {w : World} (hr : Rep (PFr P fn nt w0 r) st a w) :
    a.defers = [] ∧ ∃ v, (results fn a.tmps).run P w = .ok v w ∧ ∃ u, Ending.returned v = .returned u ∧ Rel (fun _ => False) w r u ∧ Below w0.heap.size w0 w := by
  obtain ⟨η, φ, hr⟩ := hr
  obtain ⟨u, e1, e2⟩ := results_run h hr
  refine ⟨hr.defers, u, e1, u, rfl, he ▸ ?_, Keep.toBelow hr.keep⟩
  simp only [final, ARel] at e2
  obtain ⟨us, e3, e4⟩ := e2
  simp only [Rel]
  exact ⟨us, e3, viewL_rel hr _ _ _ hv e4⟩
theorem Pure.retT {fn : Func} {nt : Nat} {w0 : World} {r : PV} {l : List ResultVar} {x y : AV} {avs : List AV} {kk : List It} (hl : fn.results = l.toArray) (h : RVs P st l (x :: y :: avs)) {pvl : List PV} (hv : st.viewL (x :: y :: avs) = some pvl) (he : PV.tup pvl = r) :
    AC P (PFr P fn nt w0 r) (.code .ret :: kk) st := by
  intro a w hr
  refine wp_ret ?_
  rw [cont_ret]
  exact PQ_ofT (by rw [hl]; simpa using h) hv he hr
theorem Pure.finT {fn : Func} {nt : Nat} {w0 : World} {r : PV} {l : List ResultVar} {x y : AV} {avs : List AV} (hl : fn.results = l.toArray) (h : RVs P st l (x :: y :: avs)) {pvl : List PV} (hv : st.viewL (x :: y :: avs) = some pvl) (he : PV.tup pvl = r) :
    AC P (PFr P fn nt w0 r) [] st :=
  fun _ _ hr => PQ_ofT (by rw [hl]; simpa using h) hv he hr

end
end Go.V
