/- The calculus' rules for operations that make no memory. -/
import Derived.Test.YtbbechcbdeknnaaV1
set_option linter.all false
namespace Go.V
open Go Go.RowKit

/-- The outcome of an operation on two integers of one kind. -/
def iop (op : BinOp) (k : IntKind) (a b : Int) : Option Value :=
  match op with
  | .add => some (.int k (k.wrap (a + b)))
  | .sub => some (.int k (k.wrap (a - b)))
  | .mul => some (.int k (k.wrap (a * b)))
  | .eql => some (.bool (a == b))
  | .neq => some (.bool (a != b))
  | .lss => some (.bool (decide (a < b)))
  | .leq => some (.bool (decide (a ≤ b)))
  | .gtr => some (.bool (decide (a > b)))
  | .geq => some (.bool (decide (a ≥ b)))
  | _ => none

section
variable {P : Program} {fr : Fr} {st : St}

/-- An operation that yields one value, whatever the world, as long as it goes on from the one at hand. -/
theorem Yld.of_run {o : Oper} {av : AV}
    (h : ∀ η φ a w, RepE fr η φ st a w → ∃ u, (∀ w', Below w.heap.size w w' → (execOp a.eval o).run P w' = .ok (.value u) w') ∧ ARel η (SOf φ st.hp) w av u) : Yld P fr o st av := by
  intro η φ a w hr
  obtain ⟨u, h1, h2⟩ := h η φ a w hr
  exact ⟨u, fun w' hw' => by unfold Oper.quietAt; rw [h1 w' hw']; exact ⟨rfl, rfl⟩, h2⟩

variable {d : Option Tmp} {t : TypeId} {pos : String} {aft : Array Edge} {g : Option (Nat × Bool)}

theorem Yld.move {x : Operand} {av : AV} (hx : st.ev x = some av) : Yld P fr ⟨d, .move x, t, pos, aft, g⟩ st av :=
  Yld.of_run fun _ _ a _ hr => ⟨a.eval x, fun _ _ => rfl, hr.ev hx⟩
theorem Yld.assign {x : Operand} {av : AV} (hx : st.ev x = some av) : Yld P fr ⟨d, .assign x, t, pos, aft, g⟩ st av :=
  Yld.of_run fun _ _ a _ hr => ⟨a.eval x, fun _ _ => rfl, hr.ev hx⟩
theorem Yld.pickT {c x y : Operand} {av : AV} (hc : st.ev c = some (.p (.v (.bool true)))) (hx : st.ev x = some av) : Yld P fr ⟨d, .pick c x y, t, pos, aft, g⟩ st av :=
  Yld.of_run fun _ _ a _ hr => ⟨a.eval x, fun _ _ => by
    have h := hr.ev hc
    simp only [ARel, Rel] at h
    simp [execOp, h, asBool], hr.ev hx⟩
theorem Yld.pickF {c x y : Operand} {av : AV} (hc : st.ev c = some (.p (.v (.bool false)))) (hy : st.ev y = some av) : Yld P fr ⟨d, .pick c x y, t, pos, aft, g⟩ st av :=
  Yld.of_run fun _ _ a _ hr => ⟨a.eval y, fun _ _ => by
    have h := hr.ev hc
    simp only [ARel, Rel] at h
    simp [execOp, h, asBool], hr.ev hy⟩

theorem run_iop {op : BinOp} {k : IntKind} {a b : Int} {u : Value} (h : iop op k a b = some u) (ty : TypeId) (x y : Operand) (w : World) :
    (do eqGuard op ty x y (.int k a) (.int k b); binOp op ty (.int k a) (.int k b) : Sem Value).run P w = .ok u w := by
  cases op <;> simp only [iop, Option.some.injEq, reduceCtorEq] at h <;> subst h <;>
    simp [eqGuard, binOp, Op.intArith, Op.intCmp]

theorem Yld.int {op : BinOp} {ty ty2 : TypeId} {x y : Operand} {k : IntKind} {a b : Int} {u : Value} (hx : st.ev x = some (.p (.v (.int k a)))) (hy : st.ev y = some (.p (.v (.int k b))))
    (hop : iop op k a b = some u) : Yld P fr ⟨d, .binOp op ty x y ty2, t, pos, aft, g⟩ st (.p (.v u)) :=
  Yld.of_run fun _ _ A _ hr => ⟨u, fun w' _ => by
    have h1 := hr.ev hx
    have h2 := hr.ev hy
    simp only [ARel, Rel] at h1 h2
    have := run_iop (P := P) hop ty x y w'
    simp only [execOp, h1, h2, Sem.run_bind, Sem.run_pure] at this ⊢
    rw [this]; rfl, by simp [ARel, Rel]⟩

theorem Yld.quo {ty ty2 : TypeId} {x y : Operand} {k : IntKind} {a b : Int} (hx : st.ev x = some (.p (.v (.int k a)))) (hy : st.ev y = some (.p (.v (.int k b))))
    (hb : b ≠ 0) : Yld P fr ⟨d, .binOp .quo ty x y ty2, t, pos, aft, g⟩ st (.p (.v (.int k (k.wrap (a.tdiv b))))) :=
  Yld.of_run fun _ _ A _ hr => ⟨.int k (k.wrap (a.tdiv b)), fun w' _ => by
    have h1 := hr.ev hx
    have h2 := hr.ev hy
    simp only [ARel, Rel] at h1 h2
    simp [execOp, h1, h2, eqGuard, binOp, Op.intDiv, hb], by simp [ARel, Rel]⟩

theorem Yld.rem {ty ty2 : TypeId} {x y : Operand} {k : IntKind} {a b : Int} (hx : st.ev x = some (.p (.v (.int k a)))) (hy : st.ev y = some (.p (.v (.int k b))))
    (hb : b ≠ 0) : Yld P fr ⟨d, .binOp .rem ty x y ty2, t, pos, aft, g⟩ st (.p (.v (.int k (a.tmod b)))) :=
  Yld.of_run fun _ _ A _ hr => ⟨.int k (a.tmod b), fun w' _ => by
    have h1 := hr.ev hx
    have h2 := hr.ev hy
    simp only [ARel, Rel] at h1 h2
    simp [execOp, h1, h2, eqGuard, binOp, Op.intDiv, hb], by simp [ARel, Rel]⟩

theorem Yld.beq {ty ty2 : TypeId} {x y : Operand} {a b : Bool} (ht : P.underlying ty = some .bool) (hx : st.ev x = some (.p (.v (.bool a)))) (hy : st.ev y = some (.p (.v (.bool b)))) :
    Yld P fr ⟨d, .binOp .eql ty x y ty2, t, pos, aft, g⟩ st (.p (.v (.bool (a == b)))) :=
  Yld.of_run fun _ _ A _ hr => ⟨.bool (a == b), fun w' _ => by
    have h1 := hr.ev hx
    have h2 := hr.ev hy
    simp only [ARel, Rel] at h1 h2
    have := run_eql_bool (P := P) w' ty a b ht
    simp only [execOp, h1, h2, eqGuard]
    simp [this], by simp [ARel, Rel]⟩
theorem Yld.bne {ty ty2 : TypeId} {x y : Operand} {a b : Bool} (ht : P.underlying ty = some .bool) (hx : st.ev x = some (.p (.v (.bool a)))) (hy : st.ev y = some (.p (.v (.bool b)))) :
    Yld P fr ⟨d, .binOp .neq ty x y ty2, t, pos, aft, g⟩ st (.p (.v (.bool (a != b)))) :=
  Yld.of_run fun _ _ A _ hr => ⟨.bool (a != b), fun w' _ => by
    have h1 := hr.ev hx
    have h2 := hr.ev hy
    simp only [ARel, Rel] at h1 h2
    have := run_neq_bool (P := P) w' ty a b ht
    simp only [execOp, h1, h2, eqGuard]
    simp [this]
    cases a <;> cases b <;> rfl, by simp [ARel, Rel]⟩

/-- A string of bytes. -/
def str (l : List UInt8) : Value := .string ⟨l.toArray⟩

/-- Comparisons of two strings. -/
def sop (op : BinOp) (a b : List UInt8) : Option Value :=
  match op with
  | .eql => some (.bool (a == b))
  | .neq => some (.bool (!(a == b)))
  | .lss => some (.bool (Op.bytesLess a b))
  | .leq => some (.bool (Op.bytesLess a b || a == b))
  | .gtr => some (.bool (!(Op.bytesLess a b || a == b)))
  | .geq => some (.bool (!Op.bytesLess a b))
  | _ => none

theorem Yld.cmpStr {op : BinOp} {ty ty2 : TypeId} {x y : Operand} {a b : List UInt8} {u : Value} (hx : st.ev x = some (.p (.v (str a)))) (hy : st.ev y = some (.p (.v (str b))))
    (hop : sop op a b = some u) : Yld P fr ⟨d, .binOp op ty x y ty2, t, pos, aft, g⟩ st (.p (.v u)) :=
  Yld.of_run fun _ _ A _ hr => ⟨u, fun w' _ => by
    have h1 := hr.ev hx
    have h2 := hr.ev hy
    simp only [ARel, Rel, str] at h1 h2
    simp only [execOp, h1, h2]
    cases op <;> simp only [sop, Option.some.injEq, reduceCtorEq] at hop <;> subst hop <;> simp [eqGuard, binOp, Op.stringOp], by simp [ARel, Rel]⟩

theorem mk_append (a b : List UInt8) : (ByteArray.mk a.toArray) ++ (ByteArray.mk b.toArray) = ByteArray.mk (a ++ b).toArray := by
  apply ByteArray.ext; simp

theorem Yld.cat {ty ty2 : TypeId} {x y : Operand} {a b : List UInt8} (hx : st.ev x = some (.p (.v (str a)))) (hy : st.ev y = some (.p (.v (str b))))
    (hl : a.length + b.length < 9223372036854775808) : Yld P fr ⟨d, .binOp .add ty x y ty2, t, pos, aft, g⟩ st (.p (.v (str (a ++ b)))) :=
  Yld.of_run fun _ _ A _ hr => ⟨str (a ++ b), fun w' _ => by
    have h1 := hr.ev hx
    have h2 := hr.ev hy
    simp only [ARel, Rel, str] at h1 h2
    have hs : ¬ (((ByteArray.mk a.toArray).size + (ByteArray.mk b.toArray).size : Nat) : Int) > IntKind.i64.max := by
      simp only [ByteArray.size, List.size_toArray, IntKind.max, IntKind.signed, IntKind.bits]
      simp; omega
    simp only [execOp, h1, h2, eqGuard, binOp, Op.stringOp]
    simp only [Sem.run_bind, if_neg hs]
    simp [mk_append, str], by simp [ARel, Rel]⟩

theorem Yld.not {ty : TypeId} {x : Operand} {a : Bool} (hx : st.ev x = some (.p (.v (.bool a)))) : Yld P fr ⟨d, .unOp .not ty x, t, pos, aft, g⟩ st (.p (.v (.bool (!a)))) :=
  Yld.of_run fun _ _ A _ hr => ⟨.bool (!a), fun w' _ => by
    have h1 := hr.ev hx
    simp only [ARel, Rel] at h1
    simp [execOp, h1, Op.unary], by simp [ARel, Rel]⟩
theorem Yld.neg {ty : TypeId} {x : Operand} {k : IntKind} {a : Int} (hx : st.ev x = some (.p (.v (.int k a)))) : Yld P fr ⟨d, .unOp .neg ty x, t, pos, aft, g⟩ st (.p (.v (.int k (k.wrap (-a))))) :=
  Yld.of_run fun _ _ A _ hr => ⟨.int k (k.wrap (-a)), fun w' _ => by
    have h1 := hr.ev hx
    simp only [ARel, Rel] at h1
    simp [execOp, h1, Op.unary, Op.intArith], by simp [ARel, Rel]⟩

theorem Yld.convInt {src dst : TypeId} {x : Operand} {k k' : IntKind} {a : Int} {D : TypeDesc} (hs : P.underlying src = some D) (hd : P.underlying dst = some (.int k))
    (hx : st.ev x = some (.p (.v (.int k' a)))) : Yld P fr ⟨d, .convert src dst x, t, pos, aft, g⟩ st (.p (.v (.int k (k.wrap a)))) :=
  Yld.of_run fun _ _ A _ hr => ⟨.int k (k.wrap a), fun w' _ => by
    have h1 := hr.ev hx
    simp only [ARel, Rel] at h1
    simp [execOp, h1, Go.convert, run_underlying hs, run_underlying hd, Conv.intToInt], by simp [ARel, Rel]⟩

/-- The parts of a tuple. -/
def AV.parts : AV → Option (List AV)
  | .tup l => some l
  | .p (.tup l) => some (l.map .p)
  | _ => none

theorem relL_getElem {S : Nat → Prop} {w : World} : ∀ (cs : List PV) (us : List Value) (i : Nat) (c : PV), RelL S w cs us → cs[i]? = some c → ∃ u, us[i]? = some u ∧ Rel S w c u
  | [], _, _, _, _, h => by simp at h
  | c :: cs, us, i, c', h, hc => by
    simp only [RelL] at h
    obtain ⟨u, us', rfl, h2, h3⟩ := h
    cases i with
    | zero => simp at hc; subst hc; exact ⟨u, by simp, h2⟩
    | succ i => simp at hc; obtain ⟨u', h4, h5⟩ := relL_getElem cs us' i c' h3 hc; exact ⟨u', by simpa using h4, h5⟩
theorem aRelL_getElem {η : Nat → Value} {S : Nat → Prop} {w : World} : ∀ (cs : List AV) (us : List Value) (i : Nat) (c : AV), ARelL η S w cs us → cs[i]? = some c → ∃ u, us[i]? = some u ∧ ARel η S w c u
  | [], _, _, _, _, h => by simp at h
  | c :: cs, us, i, c', h, hc => by
    simp only [ARelL] at h
    obtain ⟨u, us', rfl, h2, h3⟩ := h
    cases i with
    | zero => simp at hc; subst hc; exact ⟨u, by simp, h2⟩
    | succ i => simp at hc; obtain ⟨u', h4, h5⟩ := aRelL_getElem cs us' i c' h3 hc; exact ⟨u', by simpa using h4, h5⟩

theorem AV.parts_rel {av : AV} {l : List AV} (hp : av.parts = some l) {η : Nat → Value} {S : Nat → Prop} {w : World} {u : Value} (h : ARel η S w av u) :
    ∃ us, u = .tuple us ∧ ARelL η S w l us.toList := by
  have conv : ∀ (l : List PV) (us : List Value), RelL S w l us → ARelL η S w (l.map .p) us := by
    intro l
    induction l with
    | nil => intro us h; simpa [RelL, ARelL] using h
    | cons c l ih =>
      intro us h
      simp only [RelL] at h
      obtain ⟨u, us', rfl, h2, h3⟩ := h
      exact ⟨u, us', rfl, by simpa [ARel] using h2, ih us' h3⟩
  cases av with
  | tup l' => simp only [AV.parts, Option.some.injEq] at hp; subst hp; simpa only [ARel] using h
  | p x =>
    cases x with
    | tup l' =>
      simp only [AV.parts, Option.some.injEq] at hp; subst hp
      simp only [ARel, Rel] at h
      obtain ⟨us, h1, h2⟩ := h
      exact ⟨us, h1, conv l' us.toList h2⟩
    | _ => cases hp
  | _ => cases hp

theorem Yld.extract {x : Operand} {i : Nat} {av : AV} {l : List AV} {c : AV} (hx : st.ev x = some av) (hp : av.parts = some l) (hc : l[i]? = some c) :
    Yld P fr ⟨d, .extract x i, t, pos, aft, g⟩ st c :=
  Yld.of_run fun _ _ A w hr => by
    obtain ⟨us, h1, h2⟩ := AV.parts_rel hp (hr.ev hx)
    obtain ⟨u, h3, h4⟩ := aRelL_getElem l us.toList i c h2 hc
    refine ⟨u, fun w' _ => ?_, h4⟩
    have h3' : us[i]? = some u := by simpa using h3
    simp [execOp, h1, Instr.extract, h3']

end
end Go.V
