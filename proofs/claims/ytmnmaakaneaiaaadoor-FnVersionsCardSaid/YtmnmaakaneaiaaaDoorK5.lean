/- The calculus' rules: a nil slice in a box becomes an own empty one; struct literals with their zero values as they are. -/
import Derived.Test.YtmnmaakaneaiaaaDoorK3
import Derived.Lib.AppendZeros
import Derived.Test.YtmnmaakaneaiaaaDoorK2
import Derived.Sort.OwnSorted
import Derived.Lib.SlicesCompact
import Derived.Sort.Walk0
import Derived.Shelf.Small.Bits
import Derived.Shelf.Small.Strs
import Derived.Shelf.Strconv.Itoa0
import Derived.Shelf.Strconv.Itoa1
import Derived.Shelf.LaysM
import Derived.Shelf.Strconv.Itoa2
import Derived.Shelf.Strconv.Itoa3
import Derived.Shelf.Strconv.Itoa4
import Derived.Test.YtmnmaakaneaiaaaDoorProg
import Derived.Test.YtmnmaakaneaiaaaDoorK4

namespace Go.V
open Go Go.RowKit

theorem aRelL_set {η : Nat → Value} {S : Nat → Prop} {w : World} : ∀ (cs : List AV) (us : List Value) (i : Nat) (c : AV), ARelL η S w cs us → (∀ u, us[i]? = some u → ARel η S w c u) → ARelL η S w (cs.set i c) us
  | [], us, i, c, h, _ => by simpa [ARelL] using h
  | a :: cs, us, 0, c, h, hc => by
    simp only [ARelL] at h
    obtain ⟨u, us', rfl, h2, h3⟩ := h
    simp only [List.set_cons_zero, ARelL]
    exact ⟨u, us', rfl, hc u (by simp), h3⟩
  | a :: cs, us, i + 1, c, h, hc => by
    simp only [ARelL] at h
    obtain ⟨u, us', rfl, h2, h3⟩ := h
    simp only [List.set_cons_succ, ARelL]
    exact ⟨u, us', rfl, h2, aRelL_set cs us' i c h3 (fun v hv => hc v (by simpa using hv))⟩
theorem aRelL_at {η : Nat → Value} {S : Nat → Prop} {w : World} : ∀ (cs : List AV) (us : List Value) (i : Nat) (c : AV), ARelL η S w cs us → cs[i]? = some c → ∃ u, us[i]? = some u ∧ ARel η S w c u
  | [], us, i, c, _, h => by simp at h
  | a :: cs, us, 0, c, h, hc => by
    simp only [ARelL] at h
    obtain ⟨u, us', rfl, h2, h3⟩ := h
    simp at hc; subst hc
    exact ⟨u, by simp, h2⟩
  | a :: cs, us, i + 1, c, h, hc => by
    simp only [ARelL] at h
    obtain ⟨u, us', rfl, h2, h3⟩ := h
    obtain ⟨v, h4, h5⟩ := aRelL_at cs us' i c h3 (by simpa using hc)
    exact ⟨v, by simpa using h4, h5⟩
section
variable {P : Program} {fr : Fr} {st : St} {ops : Array Oper} {rest : List Oper} {k : List It}
theorem RepE.nilCell {η : Nat → Value} {φ : Nat → List Nat} {a : Act} {w : World} (hr : RepE fr η φ st a w) (id off id2 : Nat) {ty ty2 rs2 : Nat} {cs : List AV} (hg : get st.hp id = some (.box ty cs))
    (hc : cs[off]? = some (.p (.v (.slice none 0 0)))) (hf : st.fresh id2 = true) (hpin : get fr.pin id2 = none) :
    ∃ η' φ', RepE fr η' φ' ⟨st.tm, setR id (.box ty (cs.set off (.h id2))) ((id2, .vec ty2 rs2 []) :: st.hp)⟩ a w := by
  have h1 := hr.add (Below.refl _ _) id2 hf (.vec ty2 rs2 []) (.slice none 0 0) [] (by simp) ⟨[], rfl, by simp, World.ownsRow_nil w 0 ty2 rs2, rfl⟩ hpin
  have hne : id2 ≠ id := fun e => by
    subst e
    have := (freshH_spec (fresh_parts hf).2).1
    rw [this] at hg; cases hg
  have hg' : get ((id2, Res.vec ty2 rs2 []) :: st.hp) id = some (.box ty cs) := by rw [get_cons, if_neg hne]; exact hg
  refine ⟨_, _, h1.recust id hg' ?_⟩
  obtain ⟨b, arr, e1, e2, e3, e4⟩ := h1.res id _ hg'
  refine ⟨b, arr, e1, e2, e3, aRelL_set cs _ off _ e4 (fun u hu => ?_)⟩
  obtain ⟨v, h2, h3⟩ := aRelL_at cs _ off _ e4 hc
  rw [h2] at hu
  obtain rfl := Option.some.inj hu
  simp only [ARel, Rel] at h3 ⊢
  rw [upd_self, h3]
theorem AC.nilCell (id off id2 : Nat) (ty2 rs2 : Nat) {ty : TypeId} {cs : List AV} (hg : get st.hp id = some (.box ty cs)) (hc : cs[off]? = some (.p (.v (.slice none 0 0)))) (hf : st.fresh id2 = true)
    (hk : AC P fr k ⟨st.tm, setR id (.box ty (cs.set off (.h id2))) ((id2, .vec ty2 rs2 []) :: st.hp)⟩) (hpin : get fr.pin id2 = none := by rfl) : AC P fr k st :=
  fun a w ⟨_, _, hr⟩ => by
    obtain ⟨η', φ', h⟩ := hr.nilCell id off id2 (ty2 := ty2) (rs2 := rs2) hg hc hf hpin
    exact hk a w ⟨η', φ', h⟩
theorem AO.nilCell (id off id2 : Nat) (ty2 rs2 : Nat) {ty : TypeId} {cs : List AV} (hg : get st.hp id = some (.box ty cs)) (hc : cs[off]? = some (.p (.v (.slice none 0 0)))) (hf : st.fresh id2 = true)
    (hk : AO P fr ops rest k false ⟨st.tm, setR id (.box ty (cs.set off (.h id2))) ((id2, .vec ty2 rs2 []) :: st.hp)⟩) (hpin : get fr.pin id2 = none := by rfl) : AO P fr ops rest k false st :=
  fun a w ⟨_, _, hr⟩ => by
    obtain ⟨η', φ', h⟩ := hr.nilCell id off id2 (ty2 := ty2) (rs2 := rs2) hg hc hf hpin
    exact hk a w ⟨η', φ', h⟩
end

theorem vRel (S : Nat → Prop) (w : World) : ∀ l : List Value, RelL S w (l.map PV.v) l
  | [] => rfl
  | x :: l => by simp only [List.map_cons, RelL]; exact ⟨x, l, rfl, by simp only [Rel], vRel S w l⟩
section
variable {P : Program} {fr : Fr} {st : St} {d : Option Tmp} {t : TypeId} {pos : String} {aft : Array Edge} {g : Option (Nat × Bool)}
/-- A struct literal, its zero values as they are. -/
theorem Yld.buildV {ty : TypeId} {l : List (Nat × Operand)} {pl : List (Nat × Nat)} {z : Value} {zs : List PV} {cs : List AV} (hB : BuildIs P ty pl z) (hz : z.cells.toList.map PV.v = zs) (hf : st.fillA (fun i => pl[i]?) (zs.map .p) l = some cs) :
    Yld P fr ⟨d, .build ty l.toArray, t, pos, aft, g⟩ st (.agg cs) :=
  Yld.of_run fun η φ A w hr => by
    obtain ⟨us, h1, h2⟩ := fillA_rel hr l (zs.map .p) cs z.cells hf (relL_map zs _ (hz ▸ vRel _ _ _))
    refine ⟨.agg us, fun w' _ => ?_, by simp only [ARel]; exact ⟨us, rfl, h2⟩⟩
    have e : (l.toArray.map (fun (i, x) => (i, A.eval x))).toList = l.map (fun (i, x) => (i, A.eval x)) := by simp
    simp only [execOp]
    rw [Sem.run_bind, hB _ us w' (by rw [e]; exact h1)]
    rfl
end
end Go.V
/- The calculus' rules: regions whose operations go in any order, with operations that a test guards. -/
namespace Go.V
open Go Go.RowKit
section
variable {P : Program} {fr : Fr} {st : St} {d : Option Tmp} {t : TypeId} {pos : String} {aft : Array Edge} {g : Option (Nat × Bool)}
theorem YldA.nilCheck {x : Operand} {av : AV} {cs : List AV} (hx : st.ev x = some av) (hb : st.behind av = some cs) : YldA P fr ⟨d, .nilCheck x, t, pos, aft, g⟩ st av :=
  YldA.of_run fun η φ A w hr => by
    obtain ⟨b, o, h1, h2, h3⟩ := behind_rel hb hr (hr.ev hx)
    exact ⟨A.eval x, fun w' _ => by simp [execOp, h1], hr.ev hx⟩
theorem YldA.pickT {c x y : Operand} {av : AV} (hc : st.ev c = some (.p (.v (.bool true)))) (hx : st.ev x = some av) : YldA P fr ⟨d, .pick c x y, t, pos, aft, g⟩ st av :=
  YldA.of_run fun _ _ a _ hr => ⟨a.eval x, fun _ _ => by
    have h := hr.ev hc
    simp only [ARel, Rel] at h
    simp [execOp, h, asBool], hr.ev hx⟩
theorem YldA.pickF {c x y : Operand} {av : AV} (hc : st.ev c = some (.p (.v (.bool false)))) (hy : st.ev y = some av) : YldA P fr ⟨d, .pick c x y, t, pos, aft, g⟩ st av :=
  YldA.of_run fun _ _ a _ hr => ⟨a.eval y, fun _ _ => by
    have h := hr.ev hc
    simp only [ARel, Rel] at h
    simp [execOp, h, asBool], hr.ev hy⟩
theorem YldA.not {ty : TypeId} {x : Operand} {a : Bool} (hx : st.ev x = some (.p (.v (.bool a)))) : YldA P fr ⟨d, .unOp .not ty x, t, pos, aft, g⟩ st (.p (.v (.bool (!a)))) :=
  YldA.of_run fun _ _ A _ hr => ⟨.bool (!a), fun w' _ => by
    have h1 := hr.ev hx
    simp only [ARel, Rel] at h1
    simp [execOp, h1, Op.unary], by simp [ARel, Rel]⟩
end
section
variable {P : Program} {fr : Fr} {st st' : St} {ops : Array Oper} {o : Oper} {α : Type} {fin : α → St} {fuel : Nat} {listed : Array Bool}
theorem ANx.takeG (i : Nat) {o : Oper} {d j dj : Nat} {c : Bool} {av : AV} (ho : ops[i]? = some o) (hs : Region.noSelect ops = true) (hf : Region.free .any ops listed i = true) (hr : (Region.ready .any ops listed).contains i = true)
    (hd : o.dst = some d) (hg : o.guard = some (j, c)) (hj : (ops[j]?).bind (·.dst) = some dj) (hc : get st.tm dj = some (.p (.v (.bool c)))) (hlt : Nat.blt d fr.nt = true) (hy : YldA P fr o st av) (h : ANx P fr ops fin fuel (listed.setIfInBounds i true) (st.put d av)) : ANx P fr ops fin (fuel + 1) listed st := by
  rintro a w ⟨η, φ, hr'⟩
  obtain ⟨u, h1, h2⟩ := hy η φ a w hr'
  exact wpAny_take ho hs hf hr (fun c a w h => by cases h.1) (.inl ⟨by simp [Region.wanted, hg, yielded_of hr' hj hc], h1⟩) (h _ _ ⟨η, φ, by rw [hd]; exact hr'.put hlt h2⟩)
theorem ANx.skip (i : Nat) {o : Oper} {d j dj : Nat} {c : Bool} (ho : ops[i]? = some o) (hs : Region.noSelect ops = true) (hf : Region.free .any ops listed i = true) (hr : (Region.ready .any ops listed).contains i = true)
    (hd : o.dst = some d) (hg : o.guard = some (j, !c)) (hj : (ops[j]?).bind (·.dst) = some dj) (hc : get st.tm dj = some (.p (.v (.bool c)))) (hlt : Nat.blt d fr.nt = true) (h : ANx P fr ops fin fuel (listed.setIfInBounds i true) (st.put d (.p (.v undef)))) : ANx P fr ops fin (fuel + 1) listed st := by
  rintro a w ⟨η, φ, hr'⟩
  exact wpAny_take ho hs hf hr (fun c a w h => by cases h.1) (.inr ⟨by simp [Region.wanted, hg, yielded_of hr' hj hc], rfl⟩) (h _ _ ⟨η, φ, by rw [hd]; exact hr'.put hlt (by simp [ARel, Rel])⟩)
theorem ANx.skipT (i : Nat) {o : Oper} {d j dj : Nat} (ho : ops[i]? = some o) (hs : Region.noSelect ops = true) (hf : Region.free .any ops listed i = true) (hr : (Region.ready .any ops listed).contains i = true)
    (hd : o.dst = some d) (hg : o.guard = some (j, true)) (hj : (ops[j]?).bind (·.dst) = some dj) (hc : get st.tm dj = some (.p (.v (.bool false)))) (hlt : Nat.blt d fr.nt = true) (h : ANx P fr ops fin fuel (listed.setIfInBounds i true) (st.put d (.p (.v undef)))) : ANx P fr ops fin (fuel + 1) listed st :=
  ANx.skip (c := false) i ho hs hf hr hd hg hj hc hlt h
theorem ANx.skipF (i : Nat) {o : Oper} {d j dj : Nat} (ho : ops[i]? = some o) (hs : Region.noSelect ops = true) (hf : Region.free .any ops listed i = true) (hr : (Region.ready .any ops listed).contains i = true)
    (hd : o.dst = some d) (hg : o.guard = some (j, false)) (hj : (ops[j]?).bind (·.dst) = some dj) (hc : get st.tm dj = some (.p (.v (.bool true)))) (hlt : Nat.blt d fr.nt = true) (h : ANx P fr ops fin fuel (listed.setIfInBounds i true) (st.put d (.p (.v undef)))) : ANx P fr ops fin (fuel + 1) listed st :=
  ANx.skip (c := true) i ho hs hf hr hd hg hj hc hlt h
theorem ANx.skipU (i : Nat) {o : Oper} {d j dj : Nat} {c : Bool} (ho : ops[i]? = some o) (hs : Region.noSelect ops = true) (hf : Region.free .any ops listed i = true) (hr : (Region.ready .any ops listed).contains i = true)
    (hd : o.dst = some d) (hg : o.guard = some (j, c)) (hj : (ops[j]?).bind (·.dst) = some dj) (hc : get st.tm dj = some (.p (.v undef))) (hlt : Nat.blt d fr.nt = true) (h : ANx P fr ops fin fuel (listed.setIfInBounds i true) (st.put d (.p (.v undef)))) : ANx P fr ops fin (fuel + 1) listed st := by
  rintro a w ⟨η, φ, hr'⟩
  refine wpAny_take ho hs hf hr (fun c a w h => by cases h.1) (.inr ⟨?_, rfl⟩) (h _ _ ⟨η, φ, by rw [hd]; exact hr'.put hlt (by simp [ARel, Rel])⟩)
  obtain ⟨u, h1, h2⟩ := hr'.slots dj _ hc
  simp only [ARel, Rel] at h2
  subst h2
  have : yielded ops a.tmps j = none := by simp [yielded, hj, h1, undef]
  simp [Region.wanted, hg, this]
theorem ANx.splitAt (j : Nat) (c : Bool) (hc : get st.tm j = some (.p (.v (.bool c)))) (ht : c = true → ANx P fr ops fin fuel listed (st.put j (.p (.v (.bool true)))))
    (hf : c = false → ANx P fr ops fin fuel listed (st.put j (.p (.v (.bool false))))) : ANx P fr ops fin fuel listed st := by
  have key : ∀ η φ a w, RepE fr η φ st a w → RepE fr η φ (st.put j (.p (.v (.bool c)))) a w := by
    intro η φ a w hr
    refine ⟨hr.defers, hr.size, ?_, hr.res, hr.disj, hr.low, hr.lt, hr.keep, hr.pin⟩
    intro i av hg
    simp only [St.put, get_cons] at hg
    split at hg
    · next e => subst e; obtain rfl := Option.some.inj hg; exact hr.slots _ _ hc
    · exact hr.slots i av hg
  have main : ANx P fr ops fin fuel listed (st.put j (.p (.v (.bool c)))) := by
    cases c with
    | true => exact ht rfl
    | false => exact hf rfl
  exact fun a w ⟨η, φ, hr⟩ => main a w ⟨η, φ, key η φ a w hr⟩
theorem Stpx.effG {i : Nat} {o : Oper} {j dj : Nat} {c : Bool} (ho : ops[i]? = some o) (hg : o.guard = some (j, c)) (hj : (ops[j]?).bind (·.dst) = some dj) (hc : get st.tm dj = some (.p (.v (.bool c)))) (he : Eff P fr o st st') (h : ANx P fr ops fin fuel (listed.setIfInBounds i true) st') : Stpx P fr ops fin fuel listed st i := by
  rintro a w ⟨η, φ, hr⟩
  unfold wpOp
  simp only [ho, show Region.wanted o (yielded ops a.tmps) = true by simp [Region.wanted, hg, yielded_of hr hj hc], if_true]
  exact .inl (he.wp ⟨η, φ, hr⟩ h)
theorem Stpx.effXG {i : Nat} {o : Oper} {T : St → Prop} {j dj : Nat} {c : Bool} (ho : ops[i]? = some o) (hg : o.guard = some (j, c)) (hj : (ops[j]?).bind (·.dst) = some dj) (hc : get st.tm dj = some (.p (.v (.bool c)))) (he : EffX P fr o st T) (h : ∀ s, T s → ANx P fr ops fin fuel (listed.setIfInBounds i true) s) : Stpx P fr ops fin fuel listed st i := by
  rintro a w ⟨η, φ, hr⟩
  unfold wpOp
  simp only [ho, show Region.wanted o (yielded ops a.tmps) = true by simp [Region.wanted, hg, yielded_of hr hj hc], if_true]
  exact .inl (he.wp ⟨η, φ, hr⟩ h)
end
end Go.V
/- The calculus' rules: a box of one's own that is only read from here on. -/
namespace Go.V
open Go Go.RowKit
section
variable {P : Program} {fr : Fr} {st : St} {ops : Array Oper} {rest : List Oper} {k : List It}
theorem RepE.freezeB {η : Nat → Value} {φ : Nat → List Nat} {a : Act} {w : World} (hr : RepE fr η φ st a w) (id : Nat) {ty : TypeId} {cs : List AV} {xs : List PV} (hg : get st.hp id = some (.box ty cs)) (hp : pvs cs = some xs) :
    RepE fr η φ ⟨substT id (.ptr xs) st.tm, substH id (.ptr xs) st.hp⟩ a w := by
  have hget : ∀ i r, get (substH id (.ptr xs) st.hp) i = some r → i ≠ id ∧ ∃ r0, get st.hp i = some r0 ∧ r = r0.subst id (.ptr xs) := by
    intro i r h
    rw [get_substH] at h
    split at h
    · cases h
    · next e => obtain ⟨r0, h1, rfl⟩ := Option.map_eq_some_iff.1 h; exact ⟨e, r0, h1, rfl⟩
  have hS : ∀ k, SOf φ (substH id (.ptr xs) st.hp) k → SOf φ st.hp k := by
    rintro k ⟨i, r, h1, h2⟩
    obtain ⟨_, r0, h3, _⟩ := hget i r h1
    exact ⟨i, r0, h3, h2⟩
  have hx : Rel (SOf φ (substH id (.ptr xs) st.hp)) w (.ptr xs) (η id) := by
    obtain ⟨blk, arr, e1, e2, e3, e4⟩ := hr.res id _ hg
    have h4 := pvs_rel cs xs _ hp e4
    simp only [Rel]
    refine ⟨blk, 0, e1, ?_, (Array.getElem?_eq_some_iff.1 e3).1, ?_⟩
    · rintro ⟨i, r, h1, h2⟩
      obtain ⟨hne, r0, h4, _⟩ := hget i r h1
      exact hne (hr.disj i id r0 _ blk h4 hg h2 (by rw [e2]; simp))
    · refine RelAt.mono (S := SOf φ st.hp) (w := w) ⟨Nat.le_refl _, fun _ _ _ => rfl⟩ (fun k _ h => hS k h) rfl 0 xs ?_
      refine relAt_of_relL xs 0 arr.toList (fun j u hj => ?_) h4
      rw [cell_of_row w blk (0 + j) arr ty (0, 0) e3]
      simpa using hj
  refine ⟨hr.defers, hr.size, ?_, ?_, ?_, ?_, ?_, hr.keep, hr.pin⟩
  · intro i av h
    rw [get_substT] at h
    obtain ⟨a0, h1, rfl⟩ := Option.map_eq_some_iff.1 h
    obtain ⟨u, h2, h3⟩ := hr.slots i a0 h1
    exact ⟨u, h2, ARel.subst hS hx a0 u h3⟩
  · intro i r h
    obtain ⟨hne, r0, h1, rfl⟩ := hget i r h
    have hres := hr.res i r0 h1
    cases r0 with
    | box ty cs =>
      obtain ⟨b, arr, e1, e2, e3, e4⟩ := hres
      exact ⟨b, arr, e1, e2, e3, ARelL.subst hS hx cs _ e4⟩
    | vec ty rs rows =>
      exact RRes.mono ⟨Nat.le_refl _, fun _ _ _ => rfl⟩ (fun k _ h => hS k h) (fun _ _ => rfl) (.vec ty rs rows) (fun _ _ => rfl) hres
    | cust C => exact RRes.mono ⟨Nat.le_refl _, fun _ _ _ => rfl⟩ (fun k _ h => hS k h) (fun _ _ => rfl) (.cust C) (fun _ _ => rfl) hres
  · intro i j r r' k h1 h2
    obtain ⟨_, r0, h3, _⟩ := hget i r h1
    obtain ⟨_, r1, h4, _⟩ := hget j r' h2
    exact hr.disj i j r0 r1 k h3 h4
  · intro i r k h1
    obtain ⟨_, r0, h3, _⟩ := hget i r h1
    exact hr.low i r0 k h3
  · intro i r k h1
    obtain ⟨_, r0, h3, _⟩ := hget i r h1
    exact hr.lt i r0 k h3
theorem AC.freezeB (id : Nat) {ty : TypeId} {cs : List AV} {xs : List PV} (hg : get st.hp id = some (.box ty cs)) (hp : pvs cs = some xs) (hk : AC P fr k ⟨substT id (.ptr xs) st.tm, substH id (.ptr xs) st.hp⟩) : AC P fr k st :=
  fun a w ⟨_, _, hr⟩ => hk a w ⟨_, _, hr.freezeB id hg hp⟩
theorem AO.freezeB (id : Nat) {ty : TypeId} {cs : List AV} {xs : List PV} (hg : get st.hp id = some (.box ty cs)) (hp : pvs cs = some xs) (hk : AO P fr ops rest k false ⟨substT id (.ptr xs) st.tm, substH id (.ptr xs) st.hp⟩) : AO P fr ops rest k false st :=
  fun a w ⟨_, _, hr⟩ => hk a w ⟨_, _, hr.freezeB id hg hp⟩
end
end Go.V
/- The calculus' rules: nil slices, and append of what make would make. -/
namespace Go.V
open Go Go.RowKit
section
variable {P : Program} {fr : Fr} {st : St} {d : Option Tmp} {t : TypeId} {pos : String} {aft : Array Edge} {g : Option (Nat × Bool)}
theorem Yld.lenNil {ty : TypeId} {x : Operand} {e : TypeId} (hs : P.underlying ty = some (.slice e)) (hx : st.ev x = some (.p (.v (.slice none 0 0)))) :
    Yld P fr ⟨d, .call { callee := .builtin .len, args := #[x], argTypes := #[ty] }, t, pos, aft, g⟩ st (.p (.v (.int .i64 0))) :=
  Yld.of_run fun _ _ A w hr => by
    have h1 := hr.ev hx
    simp only [ARel, Rel] at h1
    exact ⟨.int .i64 0, fun w' hw' => by simp [execOp, resolve, invoke, builtin, h1, Builtin.len_, run_underlying hs, goInt], by simp [ARel, Rel]⟩
theorem Yld.capNil {ty : TypeId} {x : Operand} {e : TypeId} (hs : P.underlying ty = some (.slice e)) (hx : st.ev x = some (.p (.v (.slice none 0 0)))) :
    Yld P fr ⟨d, .call { callee := .builtin .cap, args := #[x], argTypes := #[ty] }, t, pos, aft, g⟩ st (.p (.v (.int .i64 0))) :=
  Yld.of_run fun _ _ A w hr => by
    have h1 := hr.ev hx
    simp only [ARel, Rel] at h1
    exact ⟨.int .i64 0, fun w' hw' => by simp [execOp, resolve, invoke, builtin, h1, Builtin.cap_, run_underlying hs, goInt], by simp [ARel, Rel]⟩
theorem Yld.sliceNil {ty : TypeId} {x y : Operand} {e : TypeId} {rs : Nat} (hs : P.underlying ty = some (.slice e)) (hsz : ∀ w, (sizeOf e).run P w = .ok rs w) (hx : st.ev x = some (.p (.v (.slice none 0 0)))) (hy : st.ev y = some (.p (.v (.int .i64 0)))) :
    Yld P fr ⟨d, .slice ty x none (some y) none, t, pos, aft, g⟩ st (.p (.v (.slice none 0 0))) :=
  Yld.of_run fun η φ A w hr => by
    have h1 := hr.ev hx
    simp only [ARel, Rel] at h1
    refine ⟨.slice none 0 0, fun w' hw' => ?_, by simp [ARel, Rel]⟩
    have hb := bnds_run (P := P) (fr := fr) (st := st) (a := A) (w' := w') (lo := none) (hi := some y) (l := 0) (h := 0) (n := 0) (cap := 0) hr .none (.some hy (by rfl)) (Nat.le_refl _) (Nat.le_refl _) true
    have := run_sliceAt (P := P) hs hsz (a := none) (n := 0) (cap := 0) (w := w') hb
    simp only [Option.map_none] at this
    simp only [execOp, h1, Sem.run_bind, Option.map_none, this]; simp
end
section
variable {P : Program} {fr : Fr} {ops : Array Oper} {rest : List Oper} {k : List It} {st : St} {d : Nat} {t : TypeId} {pos : String} {aft : Array Edge}
theorem exec_append2 {A : Act} {x y : Operand} {ty ty' tr : TypeId} {g : Option (Nat × Bool)} {w w' : World} {v' : Value} (h : (Builtin.append_ #[ty, ty'] tr #[A.eval x, A.eval y]).run P w = .ok v' w') :
    (execOp A.eval ⟨some d, .call { callee := .builtin .append, args := #[x, y], argTypes := #[ty, ty'] }, tr, pos, aft, g⟩).run P w = .ok (.value v') w' := by
  have key : ∀ cs, (builtin .append #[ty, ty'] tr cs #[A.eval x, A.eval y]).run P w = .ok (.value v') w' := by
    intro cs
    simp only [builtin, Sem.run_bind, h]; rfl
  simp [execOp, resolve, invoke, key]
/-- append(nil, make([]E, n)...). -/
theorem AO.appendMake {ty tn e : TypeId} {x y : Operand} {n : Nat} {kk kn : IntKind} (id : Nat) {z : Value} {rs bytes : Nat} {row : List PV} (hs : P.underlying ty = some (.slice e)) (htn : P.underlying tn = some (.int kn)) (hi : TyIs P e z rs bytes) (hz : z.cells.toList.map zpv = row)
    (hrow : Nat.beq row.length rs = true) (hrs : Nat.blt 0 rs = true) (hx : st.ev x = some (.p (.v (.slice none 0 0)))) (hy : st.ev y = some (.p (.v (.int kk n)))) (h0 : 0 < n) (hb : n * bytes ≤ 281474976710656) (hm : n ≤ 4611686018427387904)
    (hf : st.fresh id = true) (hlt : Nat.blt d fr.nt = true)
    (hk : AO P fr ops rest k false ⟨(d, .h id) :: st.tm, (id, .vec e rs (List.replicate n row)) :: st.hp⟩) (hpin : get fr.pin id = none := by rfl) : AO P fr ops (⟨some d, .call { callee := .builtin .append, args := #[x, y], argTypes := #[ty, tn] }, t, pos, aft, none⟩ :: rest) k false st :=
  AO.of_run rfl rfl (fun a w ⟨η, φ, hr⟩ => by
    obtain ⟨i, h1, h2, h3, h4⟩ := info_parts hi
    have e1 := hr.ev hx
    have e2 := hr.ev hy
    simp only [ARel, Rel] at e1 e2
    have hrs0 : 0 < rs := Nat.le_of_ble_eq_true hrs
    have hrun := Lib.run_append_nil_zeros (P := P) w ty tn t e i z kk kn hs htn h1 h2 n h0 (by omega) (by omega) (by rw [h4]; exact hb)
    have hm' : n ≤ maxLen := by simp only [maxLen]; omega
    have hzs : z.cells.size = rs := by
      have := congrArg List.length hz
      simp only [List.length_map, Array.length_toList] at this
      rw [this]; exact Nat.eq_of_beq_eq_true hrow
    have hge := grownCap_ge w n 0 e
    have hbw : Below w.heap.size w (w.drew.alloc (.cells (Builtin.zeroCells z.cells n ++ Builtin.zeroCells z.cells (grownCap w n 0 e - n)) e)) := (Below.drew (Below.refl _ _)).alloc (Nat.le_refl _) _
    refine ⟨_, _, exec_append2 (by rw [e1, e2]; exact hrun), _, _, hr.addPut hbw id hf (.vec e rs (List.replicate n row)) _ [w.heap.size] (by simp)
      ⟨(List.replicate n z.cells.toList).flatten, ?_, ?_, ⟨?_, .inr ⟨w.heap.size, grownCap w n 0 e, _, ?_, Nat.zero_le _, heap_alloc_new w.drew _, ?_, ?_, ?_, ?_⟩⟩, ?_⟩ hlt hpin⟩
    · exact relL_replicate (hz ▸ zpvs_rel _ _ _) n
    · intro r hr'; rw [List.eq_of_mem_replicate hr']; exact Nat.eq_of_beq_eq_true hrow
    · rw [flatten_length (rs := rs) _ (fun r hr' => by rw [List.eq_of_mem_replicate hr']; simpa using hzs)]; simp
    · simp
    · simpa using hge
    · exact grownCap_le_maxLen w n 0 e hm'
    · simp only [Array.size_append, size_zeroCells, hzs, ← Nat.add_mul]
      congr 1; omega
    · have hmk : (Builtin.zeroCells z.cells n).toList = (List.replicate n z.cells.toList).flatten := mod_list (z := z.cells) (by rw [hzs]; exact hrs0) n
      have hl9 : ((List.replicate n z.cells.toList).flatten).length = n * rs := by rw [flatten_length (rs := rs) _ (fun r hr' => by rw [List.eq_of_mem_replicate hr']; simpa using hzs)]; simp
      simp only [List.length_replicate, Array.toList_append, hmk]
      rw [← hl9]; exact List.take_left
    · rfl) hk
end
end Go.V
/- What the library's contracts of sorting and compacting strings say, in the calculus' words. -/
namespace Go.V
open Go Go.RowKit Go.Sort Go.Proofs
def sortL (ss : List (List UInt8)) : List (List UInt8) := ss.mergeSort fun x y => decide (x ≤ y)
structure SortsS (P : Program) (f : FuncId) : Prop where
  some : ∀ (blk off cap : Nat) (ss : List (List UInt8)) (w : World), Holds encStr w blk off ss.toArray → blk < w.heap.size → ss.length < 4611686018427387904 →
    Calls P f #[.slice (some ⟨blk, off, none⟩) ss.length cap] w fun e w' => e = .returned (.tuple #[]) ∧ ∃ n os, w' = grow (putRow encStr (Sort.ahead w n) blk off (ss.mergeSort fun x y => decide (x ≤ y)).toArray) os
  none : ∀ (a : Option Addr) (cap : Nat) (w : World), Calls P f #[.slice a 0 cap] w fun e w' => e = .returned (.tuple #[]) ∧ w' = w
structure CompactsS (P : Program) (f : FuncId) : Prop where
  some : ∀ (blk off cap : Nat) (zs : List (List UInt8)) (w : World), Holds encStr w blk off zs.toArray → zs.length ≤ 9223372036854775807 → zs.length ≤ cap →
    Calls P f #[.slice (some ⟨blk, off, none⟩) zs.length cap] w fun e w' => e = .returned (.slice (some ⟨blk, off, none⟩) (Lib.compact zs).length cap) ∧ ∃ q, w' = putRow encStr (Sort.ahead w q) blk off (Lib.compact zs ++ List.replicate (zs.length - (Lib.compact zs).length) []).toArray
  none : ∀ (a : Option Addr) (cap : Nat) (w : World), Calls P f #[.slice a 0 cap] w fun e w' => e = .returned (.slice a 0 cap) ∧ w' = w

theorem relS {S : Nat → Prop} {w : World} : ∀ {ss : List (List UInt8)} {xs : List Value}, RelL S w (ss.map encS).flatten xs → xs = ss.map encStr
  | [], xs, h => by simpa [RelL] using h
  | s :: ss, xs, h => by
    simp only [List.map_cons, List.flatten_cons, encS, List.cons_append, List.nil_append, RelL] at h
    obtain ⟨u, us, rfl, h2, h3⟩ := h
    simp only [Rel] at h2
    rw [h2, relS h3]; rfl
theorem relS' (S : Nat → Prop) (w : World) : ∀ (ss : List (List UInt8)), RelL S w (ss.map encS).flatten (ss.map encStr)
  | [] => by simp [RelL]
  | s :: ss => by
    simp only [List.map_cons, List.flatten_cons, encS, List.cons_append, List.nil_append, RelL]
    exact ⟨_, _, rfl, by simp only [Rel]; rfl, relS' S w ss⟩
theorem rows1 (ss : List (List UInt8)) : ∀ r ∈ ss.map encS, r.length = 1 := fun r hr => by
  obtain ⟨x, _, rfl⟩ := List.mem_map.1 hr; rfl
theorem ownsRow_cut {w : World} {base : Nat} {e : TypeId} {g n cap m : Nat} {xs : List Value} (h : w.ownsRow base e 1 (.slice (some ⟨g, 0, none⟩) n cap) n xs) (hm : m ≤ n) : w.ownsRow base e 1 (.slice (some ⟨g, 0, none⟩) m cap) m (xs.take m) := by
  obtain ⟨h1, h2⟩ := h
  rcases h2 with ⟨h2, _⟩ | ⟨g', cap', cur, h2, h3, h4, h5, h6, h7, h8⟩
  · cases h2
  · simp only [Value.slice.injEq, Option.some.injEq, Addr.mk.injEq] at h2
    obtain ⟨⟨rfl, _⟩, _, rfl⟩ := h2
    refine ⟨by rw [List.length_take]; omega, .inr ⟨g, cap, cur, rfl, h3, h4, by omega, h6, h7, ?_⟩⟩
    rw [← h8, List.take_take, Nat.mul_one, Nat.mul_one, Nat.min_eq_left hm]
/-- What is left when a row of one's own has been written over in place. -/
theorem inplace {η : Nat → Value} {φ : Nat → List Nat} {w w' w0 : World} {F0 : List Nat} {ty : TypeId} {ss ts : List (List UInt8)} {g cap n m : Nat} {os : Array Obj} {cur : Array Value}
    (hok : HpOk η φ ((900, .cust (extC w0 F0)) :: [(0, .vec ty 1 (ss.map encS))]) w) (he : η 0 = .slice (some ⟨g, 0, none⟩) ss.length cap) (hg : w.heap[g]? = some (.cells cur ty (0, 0))) (hnc : ss.length ≤ cap) (hcm : cap ≤ maxLen) (hcs : cur.size = cap * 1)
    (hl : ts.length = ss.length) (hm : m ≤ ss.length) (hw : w' = grow (putRow encStr (Sort.ahead w n) g 0 ts.toArray) os) :
    HpOk (upd η 0 (.slice (some ⟨g, 0, none⟩) m cap)) φ ((900, .cust (extC w0 F0)) :: [(0, .vec ty 1 ((ts.take m).map encS))]) w' ∧
      (∀ i r k, get ((900, Res.cust (extC w0 F0)) :: [(0, .vec ty 1 ((ts.take m).map encS))]) i = some r → k ∈ φ i → SOf φ ((900, .cust (extC w0 F0)) :: [(0, .vec ty 1 (ss.map encS))]) k ∨ w.heap.size ≤ k) ∧ Keep (SOf φ ((900, .cust (extC w0 F0)) :: [(0, .vec ty 1 (ss.map encS))])) w w' := by
  have hgrow : w.grownBy w' (some g) := by rw [hw]; exact grownBy_sorted _
  have hφ : φ 0 = [g] := by
    obtain ⟨_, _, _, _, h4⟩ := hok.res 0 _ rfl
    rw [h4, he]; rfl
  have hg0 : g ∈ φ 0 := by rw [hφ]; simp
  have h9 : g ∉ φ 900 := fun h => by have := hok.disj 0 900 _ _ g rfl rfl hg0 h; cases this
  have hget : ∀ i r, get ((900, Res.cust (extC w0 F0)) :: [(0, .vec ty 1 ((ts.take m).map encS))]) i = some r → ∃ r0, get ((900, Res.cust (extC w0 F0)) :: [(0, .vec ty 1 (ss.map encS))]) i = some r0 := by
    intro i r h
    rw [get_cons] at h ⊢
    split at h
    · next e => rw [if_pos e]; exact ⟨_, rfl⟩
    · next e =>
      rw [if_neg e]
      rw [get_cons] at h ⊢
      split at h
      · next e2 => rw [if_pos e2]; exact ⟨_, rfl⟩
      · cases h
  have hrow := ownsRow_sorted (w := w) (base := 0) (g := g) (n := n) (os := os) (ts := ts) hl (Nat.zero_le _) hg hnc hcm hcs
  rw [← hw] at hrow
  refine ⟨⟨?_, ?_, ?_⟩, ?_, ?_⟩
  · intro i r h
    rw [get_cons] at h
    split at h
    · next e =>
      subst e
      obtain rfl := Option.some.inj h
      have h1 := hok.res 900 _ rfl
      rw [upd_ne _ _ (by decide)]
      obtain ⟨e1, e2, e3⟩ := h1
      refine ⟨e1, e2, fun k hk => ?_⟩
      have hne : k ≠ g := fun e => h9 (e ▸ hk)
      rw [← e3 k hk]
      exact hgrow.block k (hok.lt 900 _ k rfl hk) (fun e => hne (Option.some.inj e))
    · next e =>
      rw [get_cons] at h
      split at h
      · next e2 =>
        subst e2
        obtain rfl := Option.some.inj h
        rw [upd_self]
        refine ⟨(ts.take m).map encStr, relS' _ _ _, rows1 _, ?_, by rw [hφ]; rfl⟩
        have h3 := ownsRow_cut hrow hm
        rw [← List.map_take] at h3
        have hlen : ((ts.take m).map encS).length = m := by simp; omega
        rw [hlen]; exact h3
      · cases h
  · intro i j r r' k h1 h2 h3 h4
    obtain ⟨r0, h5⟩ := hget i r h1
    obtain ⟨r1, h6⟩ := hget j r' h2
    exact hok.disj i j r0 r1 k h5 h6 h3 h4
  · intro i r k h1 h2
    obtain ⟨r0, h5⟩ := hget i r h1
    exact Nat.lt_of_lt_of_le (hok.lt i r0 k h5 h2) hgrow.size
  · intro i r k h1 h2
    obtain ⟨r0, h5⟩ := hget i r h1
    exact .inl ⟨i, r0, h5, h2⟩
  · refine ⟨hgrow.os, hgrow.tape, hgrow.output, hgrow.size, fun k hk hn => hgrow.block k hk (fun e => hn ?_)⟩
    obtain rfl := Option.some.inj e
    exact ⟨0, _, rfl, hg0⟩
theorem upd_eq {η : Nat → Value} {v : Value} (h : η 0 = v) : upd η 0 v = η := by
  funext i
  by_cases e : i = 0
  · subst e; rw [upd_self, h]
  · rw [upd_ne _ _ e]
theorem grow_none (w : World) : grow w #[] = w := by simp [grow]
/-- slices.Sort of strings. -/
theorem sortS_fn {P : Program} {f : FuncId} (h : SortsS P f) {ty : TypeId} {ss : List (List UInt8)} (hl : ss.length ≤ 1048576) :
    FnE (α := Unit) P f [.h 0] [(0, .vec ty 1 (ss.map encS))] [0] (fun _ => True) (fun _ => .tup []) (fun _ => [(0, .vec ty 1 ((sortL ss).map encS))]) := by
  intro w0 F0 η φ w us hok hrel
  simp only [ARelL, ARel] at hrel
  obtain ⟨u, us', rfl, rfl, rfl⟩ := hrel
  obtain ⟨xs, h1, h2, h3, h4⟩ := hok.res 0 _ rfl
  obtain rfl := relS h1
  rw [List.length_map] at h3
  rcases h3.2 with ⟨e1, hn0⟩ | ⟨g, cap, cur, e1, _, hg, hnc, hcm, hcs, ht⟩
  · obtain rfl : ss = [] := List.eq_nil_of_length_eq_zero hn0
    rw [e1, show sortL [] = [] by simp [sortL]]
    refine (h.none none 0 w).mono ?_
    rintro e w' ⟨rfl, rfl⟩
    exact ⟨(), trivial, _, η, φ, rfl, hok, (by simp [ARel, ARelL]), (fun _ _ => rfl), (fun i r k h1 h2 => .inl ⟨i, r, h1, h2⟩), Keep.refl _ _⟩
  · rw [e1]
    refine (h.some g 0 cap ss w (holds_of_block hg (by rw [Nat.mul_one] at ht; exact ht)) (Array.getElem?_eq_some_iff.1 hg).1 (by omega)).mono ?_
    rintro e w' ⟨rfl, n, os, hw⟩
    have hsl : (sortL ss).length = ss.length := by simp [sortL]
    obtain ⟨p1, p2, p3⟩ := inplace (ts := sortL ss) (m := ss.length) hok e1 hg hnc hcm hcs hsl (Nat.le_refl _) hw
    rw [List.take_of_length_le (by omega)] at p1 p2
    rw [upd_eq e1] at p1
    exact ⟨(), trivial, _, η, φ, rfl, p1, by simp [ARel, ARelL], fun _ _ => rfl, p2, p3⟩
/-- slices.Compact of strings. -/
theorem compact_le (zs : List (List UInt8)) (h : (Lib.compact zs).length ≤ zs.length) : (Lib.compact zs ++ List.replicate (zs.length - (Lib.compact zs).length) []).length = zs.length := by simp; omega
theorem compactS_fn {P : Program} {f : FuncId} (h : CompactsS P f) {ty : TypeId} {ss : List (List UInt8)} (hl : ss.length ≤ 1048576) (hc : (Lib.compact ss).length ≤ ss.length) (hc0 : Lib.compact ([] : List (List UInt8)) = []) :
    FnE (α := Unit) P f [.h 0] [(0, .vec ty 1 (ss.map encS))] [] (fun _ => True) (fun _ => .h 0) (fun _ => [(0, .vec ty 1 ((Lib.compact ss).map encS))]) := by
  intro w0 F0 η φ w us hok hrel
  simp only [ARelL, ARel] at hrel
  obtain ⟨u, us', rfl, rfl, rfl⟩ := hrel
  obtain ⟨xs, h1, h2, h3, h4⟩ := hok.res 0 _ rfl
  obtain rfl := relS h1
  rw [List.length_map] at h3
  rcases h3.2 with ⟨e1, hn0⟩ | ⟨g, cap, cur, e1, _, hg, hnc, hcm, hcs, ht⟩
  · obtain rfl : ss = [] := List.eq_nil_of_length_eq_zero hn0
    rw [e1, hc0]
    refine (h.none none 0 w).mono ?_
    rintro e w' ⟨rfl, rfl⟩
    exact ⟨(), trivial, _, η, φ, rfl, hok, (by simp only [ARel]; exact e1.symm), (fun _ h => by cases h), (fun i r k h1 h2 => .inl ⟨i, r, h1, h2⟩), Keep.refl _ _⟩
  · rw [e1]
    refine (h.some g 0 cap ss w (holds_of_block hg (by rw [Nat.mul_one] at ht; exact ht)) (by omega) hnc).mono ?_
    rintro e w' ⟨rfl, n, hw⟩
    have hsl := compact_le ss hc
    obtain ⟨p1, p2, p3⟩ := inplace (m := (Lib.compact ss).length) (os := #[]) hok e1 hg hnc hcm hcs hsl hc (w' := w') (n := n) (by rw [grow_none]; exact hw)
    rw [List.take_left] at p1 p2
    exact ⟨(), trivial, _, upd η 0 (.slice (some ⟨g, 0, none⟩) (Lib.compact ss).length cap), φ, rfl, p1, (by simp only [ARel]; rw [upd_self]), (fun _ h => by cases h), p2, p3⟩
end Go.V
/- Names in order: sorted and compacted, or inserted one by one; states that are merged. -/
namespace Go.V
open Go
theorem bytesLess_tri : ∀ {a b : List UInt8}, Op.bytesLess a b = false → Op.bytesLess b a = false → a = b
  | [], [], _, _ => rfl
  | [], _ :: _, h, _ => by simp [Op.bytesLess] at h
  | _ :: _, [], _, h => by simp [Op.bytesLess] at h
  | x :: a, y :: b, h1, h2 => by
    simp only [Op.bytesLess, Bool.or_eq_false_iff, Bool.and_eq_false_iff, decide_eq_false_iff_not, beq_eq_false_iff_ne] at h1 h2
    have hxy : x = y := by
      apply UInt8.toNat_inj.1
      have h3 := h1.1
      have h4 := h2.1
      rw [UInt8.lt_iff_toNat_lt] at h3 h4
      omega
    subst hxy
    have h5 := h1.2.resolve_left (fun h => h rfl)
    have h6 := h2.2.resolve_left (fun h => h rfl)
    rw [bytesLess_tri h5 h6]
theorem bytesLess_asymm {a b : List UInt8} (h : Op.bytesLess a b = true) : Op.bytesLess b a = false := by
  cases h2 : Op.bytesLess b a with
  | false => rfl
  | true => have := bytesLess_trans h h2; rw [bytesLess_irrefl] at this; cases this
abbrev Names := List (List UInt8)
def Rises (l : Names) : Prop := l.Pairwise (fun x y => Op.bytesLess x y = true)
theorem rises_ext : ∀ {l l' : Names}, Rises l → Rises l' → (∀ x, x ∈ l ↔ x ∈ l') → l = l'
  | [], [], _, _, _ => rfl
  | [], y :: l', _, _, h => by have := (h y).2 (by simp); cases this
  | x :: l, [], _, _, h => by have := (h x).1 (by simp); cases this
  | x :: l, y :: l', h1, h2, h => by
    unfold Rises at h1 h2
    rw [List.pairwise_cons] at h1 h2
    have hxy : x = y := by
      rcases List.mem_cons.1 ((h x).1 (by simp)) with e | e
      · exact e
      · rcases List.mem_cons.1 ((h y).2 (by simp)) with e2 | e2
        · exact e2.symm
        · have := bytesLess_asymm (h1.1 y e2)
          rw [h2.1 x e] at this; cases this
    subst hxy
    have hno : ∀ {m : Names}, (∀ z ∈ m, Op.bytesLess x z = true) → x ∉ m := fun hm hx => by have := hm x hx; rw [bytesLess_irrefl] at this; cases this
    congr 1
    refine rises_ext h1.2 h2.2 (fun z => ⟨fun hz => ?_, fun hz => ?_⟩)
    · rcases List.mem_cons.1 ((h z).1 (by simp [hz])) with e | e
      · subst e; exact absurd hz (hno h1.1)
      · exact e
    · rcases List.mem_cons.1 ((h z).2 (by simp [hz])) with e | e
      · subst e; exact absurd hz (hno h2.1)
      · exact e
theorem le_less (x y : List UInt8) : decide (x ≤ y) = !Op.bytesLess y x := by
  rw [Go.Proofs.bytesLess_eq, ← decide_not]
  exact decide_eq_decide.2 Iff.rfl
theorem sort_pair (ss : Names) : (sortL ss).Pairwise (fun x y => Op.bytesLess y x = false) := by
  have h := List.pairwise_mergeSort (le := fun x y : List UInt8 => decide (x ≤ y)) (fun a b c h1 h2 => by
    simp only [le_less, Bool.not_eq_true'] at h1 h2 ⊢
    cases h3 : Op.bytesLess c a with
    | false => rfl
    | true =>
      cases h4 : Op.bytesLess a b with
      | true => rw [bytesLess_trans h3 h4] at h2; cases h2
      | false => rw [bytesLess_tri h4 h1] at h3; rw [h3] at h2; cases h2) (fun a b => by
    simp only [le_less]
    cases h : Op.bytesLess b a with
    | false => rfl
    | true => rw [bytesLess_asymm h]; rfl) ss
  exact h.imp (fun {a b} h => by simpa [le_less] using h)
theorem sort_mem {ss : Names} {x : List UInt8} : x ∈ sortL ss ↔ x ∈ ss := by unfold sortL; exact List.mem_mergeSort
theorem compact_to {zs : Names} (hz : zs.Pairwise (fun x y => Op.bytesLess y x = false)) : ∀ m, m ≤ zs.length →
    Rises (Lib.compactUpTo zs.toArray m) ∧ (∀ x, x ∈ Lib.compactUpTo zs.toArray m ↔ x ∈ zs.take m) ∧ (∀ x ∈ Lib.compactUpTo zs.toArray m, ∀ y, zs[m - 1]? = some y → Op.bytesLess y x = false) := by
  intro m
  induction m with
  | zero => intro _; refine ⟨by simp [Lib.compactUpTo, Rises], fun x => by simp [Lib.compactUpTo], fun x hx => by simp [Lib.compactUpTo] at hx⟩
  | succ m ih =>
    intro hm
    obtain ⟨h1, h2, h3⟩ := ih (by omega)
    obtain ⟨z, hz2⟩ := get_some (xs := zs) (k := m) (by omega)
    have hget : zs.toArray[m]! = z := by
      rw [getElem!_pos zs.toArray m (by simp; omega)]
      have := List.getElem?_eq_some_iff.1 hz2
      obtain ⟨h4, h5⟩ := this
      simpa using h5
    have hord : ∀ (j k : Nat) {a b : List UInt8}, j < k → zs[j]? = some a → zs[k]? = some b → Op.bytesLess b a = false := fun j k a b hjk ha hb => by
      obtain ⟨p1, p2⟩ := List.getElem?_eq_some_iff.1 ha
      obtain ⟨q1, q2⟩ := List.getElem?_eq_some_iff.1 hb
      have := List.pairwise_iff_getElem.1 hz j k p1 q1 hjk
      rw [p2, q2] at this; exact this
    have hmem : ∀ x ∈ zs.take m, Op.bytesLess z x = false := fun x hx => by
      obtain ⟨j, hj, he⟩ := List.mem_iff_getElem.1 hx
      have hj2 : j < m := by simp at hj; omega
      rw [List.getElem_take] at he
      exact hord j m hj2 (by rw [← he]; exact List.getElem?_eq_getElem (by omega)) hz2
    rw [Lib.compactUpTo_succ, hget, take_snoc hz2]
    simp only [Nat.add_sub_cancel]
    by_cases hk : Lib.keeps zs.toArray m = true
    · rw [if_pos hk]
      have hne : ∀ x ∈ zs.take m, x ≠ z := fun x hx e => by
        subst e
        by_cases hm0 : m = 0
        · subst hm0; simp at hx
        · obtain ⟨y, hy⟩ := get_some (xs := zs) (k := m - 1) (by omega)
          have hyx : y = x := by
            have h4 := hord (m - 1) m (by omega) hy hz2
            have h5 := h3 x ((h2 x).2 hx) y hy
            exact bytesLess_tri h5 h4
          have hgy : zs.toArray[m - 1]! = y := by
            rw [getElem!_pos zs.toArray (m - 1) (by simp; omega)]
            obtain ⟨h4, h5⟩ := List.getElem?_eq_some_iff.1 hy
            simpa using h5
          have := Lib.keeps_neg (d := zs.toArray) (m := m) (by omega) (by rw [hget, hgy, hyx])
          rw [this] at hk; cases hk
      have hlt : ∀ x ∈ zs.take m, Op.bytesLess x z = true := fun x hx => by
        cases h4 : Op.bytesLess x z with
        | true => rfl
        | false => exact absurd (bytesLess_tri h4 (hmem x hx)) (hne x hx)
      refine ⟨?_, fun x => by simp [h2], fun x hx y hy => ?_⟩
      · unfold Rises
        rw [List.pairwise_append]
        refine ⟨h1, by simp, fun a ha b hb => ?_⟩
        rw [List.mem_singleton] at hb; subst hb
        exact hlt a ((h2 a).1 ha)
      · rw [hz2] at hy
        obtain rfl := Option.some.inj hy
        rcases List.mem_append.1 hx with e | e
        · exact hmem x ((h2 x).1 e)
        · rw [List.mem_singleton] at e; subst e; exact bytesLess_irrefl _
    · rw [if_neg hk, List.append_nil]
      have hm0 : 0 < m := by
        rcases Nat.eq_zero_or_pos m with e | e
        · subst e; exact absurd (Lib.keeps_lt_one _ 0 (by omega)) hk
        · exact e
      obtain ⟨y, hy⟩ := get_some (xs := zs) (k := m - 1) (by omega)
      have hgy : zs.toArray[m - 1]! = y := by
        rw [getElem!_pos zs.toArray (m - 1) (by simp; omega)]
        obtain ⟨h4, h5⟩ := List.getElem?_eq_some_iff.1 hy
        simpa using h5
      have hyz : z = y := by
        rw [← hget, ← hgy]
        exact Decidable.byContradiction (fun hne => hk (Lib.keeps_pos hne))
      subst hyz
      have hin : z ∈ zs.take m := by
        refine List.mem_iff_getElem?.2 ⟨m - 1, ?_⟩
        rw [List.getElem?_take, if_pos (by omega)]; exact hy
      refine ⟨h1, fun x => ?_, fun x hx y hy2 => ?_⟩
      · rw [List.mem_append, List.mem_singleton, h2]
        exact ⟨.inl, fun h => h.elim id (fun e => e ▸ hin)⟩
      · rw [hz2] at hy2
        obtain rfl := Option.some.inj hy2
        exact h3 x hx _ hy
theorem compact_sort (ss : Names) : Rises (Lib.compact (sortL ss)) ∧ ∀ x, x ∈ Lib.compact (sortL ss) ↔ x ∈ ss := by
  obtain ⟨h1, h2, _⟩ := compact_to (sort_pair ss) (sortL ss).length (Nat.le_refl _)
  refine ⟨h1, fun x => ?_⟩
  have := h2 x
  rw [List.take_of_length_le (Nat.le_refl _), sort_mem] at this
  exact this
theorem compact_len (zs : Names) : (Lib.compact zs).length ≤ zs.length := by
  unfold Lib.compact Lib.compactUpTo
  rw [List.length_map]
  exact Nat.le_trans (List.length_filter_le _ _) (by simp)
theorem compact_nil : Lib.compact ([] : Names) = [] := by simp [Lib.compact, Lib.compactUpTo]
/-! Settings by name. -/
def namesOf (xs : List NV) : Names := xs.map NV.name
def setL (xs : List NV) (e : NV) : List NV := xs.filter (fun x => Op.bytesLess x.name e.name) ++ e :: xs.filter (fun x => Op.bytesLess e.name x.name)
def setTo (xs : List NV) (e : NV) (k : Nat) : List NV × Bool :=
  if (xs.take k).all (fun x => Op.bytesLess x.name e.name) then (xs.take k, false) else (setL (xs.take k) e, true)
theorem rises_take {xs : List NV} (h : Rises (namesOf xs)) (k : Nat) : Rises (namesOf (xs.take k)) := by
  unfold Rises namesOf at h ⊢; rw [List.map_take]; exact h.sublist (List.take_sublist _ _)
theorem rises_at {xs : List NV} (h : Rises (namesOf xs)) {j k : Nat} {x y : NV} (hjk : j < k) (hx : xs[j]? = some x) (hy : xs[k]? = some y) : Op.bytesLess x.name y.name = true := by
  obtain ⟨p1, p2⟩ := List.getElem?_eq_some_iff.1 hx
  obtain ⟨q1, q2⟩ := List.getElem?_eq_some_iff.1 hy
  have := List.pairwise_iff_getElem.1 h j k (by simpa [namesOf] using p1) (by simpa [namesOf] using q1) hjk
  simpa [namesOf, p2, q2] using this
theorem state_rises {xs : List NV} (h : okState xs = true) : Rises (namesOf xs) := by
  unfold Rises namesOf
  rw [List.pairwise_iff_getElem]
  intro i j hi hj hij
  simp only [List.length_map] at hi hj
  simp only [List.getElem_map]
  exact state_rise h j i hij (List.getElem?_eq_getElem hi) (List.getElem?_eq_getElem hj)
theorem setTo_zero (xs : List NV) (e : NV) : setTo xs e 0 = ([], false) := by simp [setTo]
section
variable {xs : List NV} {e x : NV} {k : Nat}
theorem setL_all {xs : List NV} (h : xs.all (fun x => Op.bytesLess x.name e.name) = true) : setL xs e = xs ++ [e] := by
  have h1 : xs.filter (fun x => Op.bytesLess x.name e.name) = xs := List.filter_eq_self.2 (fun x hx => List.all_eq_true.1 h x hx)
  have h2 : xs.filter (fun x => Op.bytesLess e.name x.name) = [] := List.filter_eq_nil_iff.2 (fun x hx => by have := bytesLess_asymm (List.all_eq_true.1 h x hx); simp [this])
  unfold setL; rw [h1, h2]
/-- One round: behind the test on the name, and behind the second test. -/
def midSet (xs : List NV) (e : NV) (k : Nat) (x : NV) : List NV × Bool :=
  if (setTo xs e k).2 = false ∧ Op.bytesLess x.name e.name = false then ((setTo xs e k).1 ++ [e], true) else setTo xs e k
theorem setTo_succ (hr : Rises (namesOf xs)) (hx : xs[k]? = some x) : setTo xs e (k + 1) = (if x.name ≠ e.name then (midSet xs e k x).1 ++ [x] else (midSet xs e k x).1, (midSet xs e k x).2) := by
  have hbefore : ∀ y ∈ xs.take k, Op.bytesLess y.name x.name = true := fun y hy => by
    obtain ⟨j, hj, he⟩ := List.mem_iff_getElem.1 hy
    have hj2 : j < k := by simp at hj; omega
    have hk := lt_of_get hx
    rw [List.getElem_take] at he
    exact rises_at hr hj2 (by rw [← he]; exact List.getElem?_eq_getElem (by omega)) hx
  by_cases hall : (xs.take k).all (fun x => Op.bytesLess x.name e.name) = true
  · have e1 : setTo xs e k = (xs.take k, false) := by unfold setTo; rw [if_pos hall]
    by_cases hlt : Op.bytesLess x.name e.name = true
    · have h2 : (xs.take (k + 1)).all (fun x => Op.bytesLess x.name e.name) = true := by rw [take_snoc hx, List.all_append, hall]; simp [hlt]
      have hne : x.name ≠ e.name := fun h => by rw [h, bytesLess_irrefl] at hlt; cases hlt
      have e2 : midSet xs e k x = (xs.take k, false) := by unfold midSet; rw [e1, if_neg (by rw [hlt]; simp)]
      have e3 : setTo xs e (k + 1) = (xs.take (k + 1), false) := by unfold setTo; rw [if_pos h2]
      rw [e2, e3, if_pos hne, take_snoc hx]
    · have hlt' : Op.bytesLess x.name e.name = false := by simpa using hlt
      have h2 : ¬ (xs.take (k + 1)).all (fun x => Op.bytesLess x.name e.name) = true := by rw [take_snoc hx, List.all_append]; simp [hlt']
      have e2 : midSet xs e k x = (xs.take k ++ [e], true) := by unfold midSet; rw [e1, if_pos ⟨rfl, hlt'⟩]
      have e3 : setTo xs e (k + 1) = (setL (xs.take (k + 1)) e, true) := by unfold setTo; rw [if_neg h2]
      rw [e2, e3]
      have h3 := setL_all (e := e) hall
      rw [take_snoc hx]
      unfold setL at h3 ⊢
      rw [List.filter_append, List.filter_append]
      have h4 : [x].filter (fun x => Op.bytesLess x.name e.name) = [] := by simp [hlt']
      rw [h4, List.append_nil]
      have h5 : (xs.take k).filter (fun x => Op.bytesLess e.name x.name) = [] := List.filter_eq_nil_iff.2 (fun y hy => by have := bytesLess_asymm (List.all_eq_true.1 hall y hy); simp [this])
      have h6 : (xs.take k).filter (fun x => Op.bytesLess x.name e.name) = xs.take k := List.filter_eq_self.2 (fun y hy => List.all_eq_true.1 hall y hy)
      rw [h5, h6, List.nil_append]
      by_cases hne : x.name ≠ e.name
      · have hgt : Op.bytesLess e.name x.name = true := by
          cases h7 : Op.bytesLess e.name x.name with
          | true => rfl
          | false => exact absurd (bytesLess_tri hlt' h7) hne
        rw [if_pos hne]; simp [hgt]
      · have hgt : Op.bytesLess e.name x.name = false := by rw [Decidable.not_not.1 hne]; exact bytesLess_irrefl _
        rw [if_neg hne]; simp [hgt]
  · have e1 : setTo xs e k = (setL (xs.take k) e, true) := by unfold setTo; rw [if_neg hall]
    have h2 : ¬ (xs.take (k + 1)).all (fun x => Op.bytesLess x.name e.name) = true := by
      rw [take_snoc hx, List.all_append, Bool.and_eq_true]; exact fun h => hall h.1
    have hgt : Op.bytesLess e.name x.name = true := by
      have : ∃ y ∈ xs.take k, Op.bytesLess y.name e.name = false := by
        apply Decidable.byContradiction
        intro h
        apply hall
        rw [List.all_eq_true]
        intro y hy
        cases h7 : Op.bytesLess y.name e.name with
        | true => rfl
        | false => exact absurd ⟨y, hy, h7⟩ h
      obtain ⟨y, hy, h7⟩ := this
      have h8 := hbefore y hy
      cases h9 : Op.bytesLess e.name y.name with
      | true => exact bytesLess_trans h9 h8
      | false => rw [← bytesLess_tri h7 h9]; exact h8
    have hne : x.name ≠ e.name := fun h => by rw [h, bytesLess_irrefl] at hgt; cases hgt
    have e2 : midSet xs e k x = (setL (xs.take k) e, true) := by unfold midSet; rw [e1, if_neg (by simp)]
    have e3 : setTo xs e (k + 1) = (setL (xs.take (k + 1)) e, true) := by unfold setTo; rw [if_neg h2]
    rw [e2, e3, if_pos hne, take_snoc hx]
    unfold setL
    rw [List.filter_append, List.filter_append]
    have h4 : [x].filter (fun x => Op.bytesLess x.name e.name) = [] := by simp [bytesLess_asymm hgt]
    have h5 : [x].filter (fun x => Op.bytesLess e.name x.name) = [x] := by simp [hgt]
    rw [h4, h5, List.append_nil]; simp
theorem setTo_end : setL xs e = if (setTo xs e xs.length).2 then (setTo xs e xs.length).1 else (setTo xs e xs.length).1 ++ [e] := by
  unfold setTo
  rw [List.take_of_length_le (Nat.le_refl _)]
  by_cases h : xs.all (fun x => Op.bytesLess x.name e.name) = true
  · rw [if_pos h]; exact setL_all h
  · rw [if_neg h]; rfl
theorem setL_rises (hr : Rises (namesOf xs)) : Rises (namesOf (setL xs e)) := by
  unfold setL Rises namesOf
  unfold Rises namesOf at hr
  rw [List.map_append, List.map_cons, List.pairwise_append, List.pairwise_cons]
  refine ⟨(List.pairwise_map.1 hr).filter _ |> List.pairwise_map.2, ⟨fun y hy => ?_, (List.pairwise_map.1 hr).filter _ |> List.pairwise_map.2⟩, fun a ha b hb => ?_⟩
  · obtain ⟨z, hz, rfl⟩ := List.mem_map.1 hy
    exact (List.mem_filter.1 hz).2
  · obtain ⟨y, hy, rfl⟩ := List.mem_map.1 ha
    have h1 := (List.mem_filter.1 hy).2
    rcases List.mem_cons.1 hb with rfl | hb
    · exact h1
    · obtain ⟨z, hz, rfl⟩ := List.mem_map.1 hb
      exact bytesLess_trans h1 (List.mem_filter.1 hz).2
theorem setL_names {n : List UInt8} : n ∈ namesOf (setL xs e) ↔ n = e.name ∨ n ∈ namesOf xs := by
  unfold setL namesOf
  rw [List.map_append, List.map_cons, List.mem_append, List.mem_cons]
  constructor
  · rintro (h | h | h)
    · obtain ⟨y, hy, rfl⟩ := List.mem_map.1 h
      exact .inr (List.mem_map.2 ⟨y, (List.mem_filter.1 hy).1, rfl⟩)
    · exact .inl h
    · obtain ⟨y, hy, rfl⟩ := List.mem_map.1 h
      exact .inr (List.mem_map.2 ⟨y, (List.mem_filter.1 hy).1, rfl⟩)
  · rintro (h | h)
    · exact .inr (.inl h)
    · obtain ⟨y, hy, rfl⟩ := List.mem_map.1 h
      cases h1 : Op.bytesLess y.name e.name with
      | true => exact .inl (List.mem_map.2 ⟨y, List.mem_filter.2 ⟨hy, h1⟩, rfl⟩)
      | false =>
        cases h2 : Op.bytesLess e.name y.name with
        | true => exact .inr (.inr (List.mem_map.2 ⟨y, List.mem_filter.2 ⟨hy, h2⟩, rfl⟩))
        | false => exact .inr (.inl (bytesLess_tri h1 h2))
theorem setL_len : (setL xs e).length ≤ xs.length + 1 := by
  have key : ∀ (xs : List NV), (xs.filter (fun x => Op.bytesLess x.name e.name)).length + (xs.filter (fun x => Op.bytesLess e.name x.name)).length ≤ xs.length := by
    intro xs
    induction xs with
    | nil => simp
    | cons y xs ih =>
      rw [List.filter_cons, List.filter_cons]
      cases h1 : Op.bytesLess y.name e.name with
      | true => rw [bytesLess_asymm h1]; simp; omega
      | false => cases Op.bytesLess e.name y.name <;> simp <;> omega
  have := key xs
  unfold setL
  simp; omega
end
def insAll (acc xs : List NV) : List NV := xs.foldl setL acc
theorem insAll_snoc {acc xs : List NV} {k : Nat} {x : NV} (h : xs[k]? = some x) : insAll acc (xs.take (k + 1)) = setL (insAll acc (xs.take k)) x := by
  unfold insAll; rw [take_snoc h, List.foldl_append]; rfl
theorem insAll_rises {xs : List NV} : ∀ {acc : List NV}, Rises (namesOf acc) → Rises (namesOf (insAll acc xs)) := by
  induction xs with
  | nil => intro acc h; exact h
  | cons x xs ih => intro acc h; exact ih (setL_rises h)
theorem insAll_names {xs : List NV} {n : List UInt8} : ∀ {acc : List NV}, n ∈ namesOf (insAll acc xs) ↔ n ∈ namesOf acc ∨ n ∈ namesOf xs := by
  induction xs with
  | nil => intro acc; simp [insAll, namesOf]
  | cons x xs ih =>
    intro acc
    show n ∈ namesOf (insAll (setL acc x) xs) ↔ _
    rw [ih, setL_names]
    simp only [namesOf, List.map_cons, List.mem_cons]
    constructor
    · rintro ((h | h) | h)
      · exact .inr (.inl h)
      · exact .inl h
      · exact .inr (.inr h)
    · rintro (h | h | h)
      · exact .inl (.inr h)
      · exact .inl (.inl h)
      · exact .inr h
theorem insAll_len {xs : List NV} : ∀ {acc : List NV}, (insAll acc xs).length ≤ acc.length + xs.length := by
  induction xs with
  | nil => intro acc; simp [insAll]
  | cons x xs ih =>
    intro acc
    have h1 := ih (acc := setL acc x)
    have h2 := setL_len (xs := acc) (e := x)
    show (insAll (setL acc x) xs).length ≤ _
    simp only [List.length_cons]; omega
/-- All names of three states, in order. -/
def names3 (base a b : List NV) : Names := Lib.compact (sortL (namesOf (base ++ a ++ b)))
theorem names3_ins (base a b : List NV) : namesOf (insAll (insAll (insAll [] base) a) b) = names3 base a b := by
  obtain ⟨h1, h2⟩ := compact_sort (namesOf (base ++ a ++ b))
  refine rises_ext (insAll_rises (insAll_rises (insAll_rises (by simp [Rises, namesOf])))) h1 (fun x => ?_)
  rw [insAll_names, insAll_names, insAll_names]
  unfold names3 at *
  rw [h2]
  simp [namesOf, or_assoc]
theorem names3_mem {base a b : List NV} {n : List UInt8} : n ∈ names3 base a b ↔ n ∈ namesOf base ∨ n ∈ namesOf a ∨ n ∈ namesOf b := by
  unfold names3
  rw [(compact_sort _).2]
  simp [namesOf]
theorem names3_len (base a b : List NV) : (names3 base a b).length ≤ base.length + a.length + b.length := by
  have h := compact_len (sortL (namesOf (base ++ a ++ b)))
  unfold names3
  simp [sortL, namesOf] at h ⊢
  omega
end Go.V
/- States that are merged: what each name stands for, what is in conflict, what is left. -/
namespace Go.V
open Go
theorem idx_find (xs : List NV) (n : List UInt8) : (idxOf (nameIs n) xs = -1 ∧ xs.find? (nameIs n) = none) ∨ ∃ (k : Nat) (x : NV), idxOf (nameIs n) xs = (k : Int) ∧ xs[k]? = some x ∧ x.name = n ∧ xs.find? (nameIs n) = some x := by
  unfold idxOf
  cases h : xs.findIdx? (nameIs n) with
  | none =>
    left
    rw [List.findIdx?_eq_none_iff] at h
    exact ⟨rfl, List.find?_eq_none.2 (fun x hx => by simp [h x hx])⟩
  | some i =>
    right
    rw [List.findIdx?_eq_some_iff_getElem] at h
    obtain ⟨h1, h2, h3⟩ := h
    refine ⟨i, xs[i], rfl, List.getElem?_eq_getElem h1, by simpa [nameIs] using h2, ?_⟩
    rw [List.find?_eq_some_iff_getElem]
    exact ⟨h2, i, h1, rfl, fun j hj => by have := h3 j hj; simpa using this⟩
def vIn (xs : List NV) (n : List UInt8) : Int := match xs.find? (nameIs n) with
  | some x => x.val
  | none => -1
def getZ (xs : List NV) (n : List UInt8) : NV := match xs.find? (nameIs n) with
  | some x => x
  | none => ⟨[], 0⟩
theorem vIn_miss {xs : List NV} {n : List UInt8} (h : xs.find? (nameIs n) = none) : vIn xs n = -1 := by simp [vIn, h]
theorem vIn_hit {xs : List NV} {n : List UInt8} {x : NV} (h : xs.find? (nameIs n) = some x) : vIn xs n = x.val := by simp [vIn, h]
theorem getZ_miss {xs : List NV} {n : List UInt8} (h : xs.find? (nameIs n) = none) : getZ xs n = ⟨[], 0⟩ := by simp [getZ, h]
theorem getZ_hit {xs : List NV} {n : List UInt8} {x : NV} (h : xs.find? (nameIs n) = some x) : getZ xs n = x := by simp [getZ, h]
theorem set_lim {xs : List NV} (h : okState xs = true) {x : NV} (hx : x ∈ xs) : isName x.name = true ∧ 0 ≤ x.val ∧ x.val ≤ 1000 := by
  obtain ⟨k, hk⟩ := List.getElem?_of_mem hx
  have := okB_at (state_ok h) hk
  simp only [okSetting, Bool.and_eq_true, decide_eq_true_eq] at this
  exact ⟨this.1, this.2⟩
theorem name_ne {n : List UInt8} (h : isName n = true) : n ≠ [] := fun e => by subst e; simp [isName] at h
theorem get_cases {xs : List NV} (h : okState xs = true) (n : List UInt8) : (vIn xs n = -1 ∧ getZ xs n = ⟨[], 0⟩) ∨ (0 ≤ vIn xs n ∧ getZ xs n = ⟨n, vIn xs n⟩) := by
  rcases idx_find xs n with ⟨_, h2⟩ | ⟨k, x, _, hx, hn, h2⟩
  · exact .inl ⟨vIn_miss h2, getZ_miss h2⟩
  · refine .inr ?_
    rw [vIn_hit h2, getZ_hit h2]
    exact ⟨(set_lim h (List.mem_of_getElem? hx)).2.1, by cases x; simp at hn; rw [hn]⟩
theorem get_eq {xs ys : List NV} (hx : okState xs = true) (hy : okState ys = true) {n : List UInt8} (hn : n ≠ []) : getZ xs n = getZ ys n ↔ vIn xs n = vIn ys n := by
  rcases get_cases hx n with ⟨h1, h2⟩ | ⟨h1, h2⟩ <;> rcases get_cases hy n with ⟨h3, h4⟩ | ⟨h3, h4⟩ <;> rw [h2, h4]
  · rw [h1, h3]; simp
  · rw [h1]; simp [hn.symm]; omega
  · rw [h3]; simp [hn]; omega
  · simp
def confB (base a b : List NV) (n : List UInt8) : Bool := decide (vIn a n ≠ vIn b n) && decide (vIn a n ≠ vIn base n) && decide (vIn b n ≠ vIn base n)
def mergeV (base a b : List NV) (n : List UInt8) : Int := if vIn a n = vIn base n then vIn b n else vIn a n
def conflTo (base a b : List NV) (k : Nat) : Names := ((names3 base a b).take k).filter (confB base a b)
def mergeTo (base a b : List NV) (k : Nat) : List NV := (((names3 base a b).take k).filter (fun n => decide (0 ≤ mergeV base a b n))).map (fun n => ⟨n, mergeV base a b n⟩)
def conflL (base a b : List NV) : Names := (names3 base a b).filter (confB base a b)
def mergeL (base a b : List NV) : List NV := ((names3 base a b).filter (fun n => decide (0 ≤ mergeV base a b n))).map (fun n => ⟨n, mergeV base a b n⟩)
theorem filter_take_succ {α : Type} {p : α → Bool} {l : List α} {k : Nat} {x : α} (h : l[k]? = some x) : (l.take (k + 1)).filter p = (l.take k).filter p ++ if p x then [x] else [] := by
  rw [take_snoc h, List.filter_append]
  congr 1
  by_cases hp : p x <;> simp [hp]
section
variable {base a b : List NV} {k : Nat} {n : List UInt8}
theorem confl_yes (h : (names3 base a b)[k]? = some n) (hc : confB base a b n = true) : (conflTo base a b k).map encS ++ [[.v (str n)]] = (conflTo base a b (k + 1)).map encS := by
  unfold conflTo; rw [filter_take_succ h, hc]; simp [encS]
theorem confl_no (h : (names3 base a b)[k]? = some n) (hc : confB base a b n = false) : conflTo base a b (k + 1) = conflTo base a b k := by
  unfold conflTo; rw [filter_take_succ h, hc]; simp
theorem merge_yes (h : (names3 base a b)[k]? = some n) {v : Int} (hv : mergeV base a b n = v) (hc : 0 ≤ v) : (mergeTo base a b k).map encNV ++ [[.v (str n), .v (.int .i64 v)]] = (mergeTo base a b (k + 1)).map encNV := by
  unfold mergeTo; rw [filter_take_succ h]; simp [hv, hc, encNV]
theorem merge_no (h : (names3 base a b)[k]? = some n) (hc : ¬ 0 ≤ mergeV base a b n) : mergeTo base a b (k + 1) = mergeTo base a b k := by
  unfold mergeTo; rw [filter_take_succ h]; simp [hc]
theorem conflTo_end : conflTo base a b (names3 base a b).length = conflL base a b := by unfold conflTo conflL; rw [List.take_of_length_le (Nat.le_refl _)]
theorem mergeTo_end : mergeTo base a b (names3 base a b).length = mergeL base a b := by unfold mergeTo mergeL; rw [List.take_of_length_le (Nat.le_refl _)]
theorem conflTo_len : (conflTo base a b k).length ≤ k := by
  unfold conflTo; exact Nat.le_trans (List.length_filter_le _ _) (by simp; omega)
theorem mergeTo_len : (mergeTo base a b k).length ≤ k := by
  unfold mergeTo; rw [List.length_map]; exact Nat.le_trans (List.length_filter_le _ _) (by simp; omega)
theorem conflL_len : (conflL base a b).length ≤ base.length + a.length + b.length := Nat.le_trans (List.length_filter_le _ _) (names3_len _ _ _)
theorem mergeL_len : (mergeL base a b).length ≤ base.length + a.length + b.length := by
  unfold mergeL; rw [List.length_map]; exact Nat.le_trans (List.length_filter_le _ _) (names3_len _ _ _)
theorem names3_ne (hb : okState base = true) (ha : okState a = true) (hb2 : okState b = true) (h : n ∈ names3 base a b) : n ≠ [] := by
  rw [names3_mem] at h
  simp only [namesOf, List.mem_map] at h
  rcases h with ⟨x, hx, rfl⟩ | ⟨x, hx, rfl⟩ | ⟨x, hx, rfl⟩
  · exact name_ne (set_lim hb hx).1
  · exact name_ne (set_lim ha hx).1
  · exact name_ne (set_lim hb2 hx).1
theorem isName_len {n : List UInt8} (h : isName n = true) : n.length ≤ 1048576 := by
  unfold isName at h; simp only [Bool.and_eq_true, decide_eq_true_eq] at h; grind
end
def mergeStates (base a b : List NV) : List NV × Int :=
  if okState base && okState a && okState b then (if 0 < (conflL base a b).length then ([], 6) else if 24 < (mergeL base a b).length then ([], 5) else (mergeL base a b, 0)) else ([], 1)
def conflictsOf (base a b : List NV) : Names × Int := if okState base && okState a && okState b then (conflL base a b, 0) else ([], 1)
theorem confB_get {base a b : List NV} (hb : okState base = true) (ha : okState a = true) (hb2 : okState b = true) {n : List UInt8} (hn : n ≠ []) :
    confB base a b n = (decide (getZ base n ≠ getZ a n) && decide (getZ base n ≠ getZ b n) && decide (getZ a n ≠ getZ b n)) := by
  unfold confB
  have h1 := get_eq hb ha hn
  have h2 := get_eq hb hb2 hn
  have h3 := get_eq ha hb2 hn
  by_cases e1 : vIn base n = vIn a n <;> by_cases e2 : vIn base n = vIn b n <;> by_cases e3 : vIn a n = vIn b n <;> simp [h1, h2, h3, e1, e2, e3, eq_comm] <;> omega
/-- Slices of slices. -/
def encL (l : List NV) : List PV := [.sl 2 (l.map encNV)]
theorem flat_succ {xss : List (List NV)} {k : Nat} {x : List NV} (h : xss[k]? = some x) : (((xss.take k).flatten.length : Nat) : Int) + ((x.map encNV).length : Int) = (((xss.take (k + 1)).flatten.length : Nat) : Int) := by
  rw [take_snoc h]; simp
theorem flat_snoc {xss : List (List NV)} {k : Nat} {x : List NV} (h : xss[k]? = some x) : (xss.take k).flatten.map encNV ++ x.map encNV = (xss.take (k + 1)).flatten.map encNV := by
  rw [take_snoc h]; simp
theorem flat_len {xss : List (List NV)} (h : ∀ l ∈ xss, l.length ≤ 1000) (k : Nat) : (xss.take k).flatten.length ≤ 1000 * xss.length := by
  have key : ∀ (ys : List (List NV)), (∀ l ∈ ys, l.length ≤ 1000) → ys.flatten.length ≤ 1000 * ys.length := by
    intro ys
    induction ys with
    | nil => intro _; simp
    | cons y ys ih =>
      intro h
      have h1 := ih (fun l hl => h l (by simp [hl]))
      have h2 := h y (by simp)
      simp only [List.flatten_cons, List.length_append, List.length_cons]; omega
  have h1 := key (xss.take k) (fun l hl => h l (List.mem_of_mem_take hl))
  have h2 : (xss.take k).length ≤ xss.length := by simp; omega
  omega
theorem names_snoc {xs : List NV} {k : Nat} {x : NV} (h : xs[k]? = some x) : (namesOf (xs.take k)).map encS ++ [[.v (str x.name)]] = (namesOf (xs.take (k + 1))).map encS := by
  rw [take_snoc h]; simp [namesOf, encS]
theorem compact_le2 (ss : Names) : (Lib.compact ss).length ≤ ss.length := compact_len ss
def merge2 (base a b : List NV) : List NV × Int := if 0 < (conflL base a b).length then ([], 6) else if 24 < (mergeL base a b).length then ([], 5) else (mergeL base a b, 0)
theorem mergeStates_ok {base a b : List NV} (h : (okState base && okState a && okState b) = true) : mergeStates base a b = merge2 base a b := if_pos h
theorem mergeStates_no {base a b : List NV} (h : ¬ (okState base && okState a && okState b) = true) : mergeStates base a b = ([], 1) := if_neg h
theorem setTo_len {xs : List NV} {e : NV} {k : Nat} : (setTo xs e k).1.length ≤ k + 1 := by
  unfold setTo
  split
  · simp; omega
  · have := setL_len (xs := xs.take k) (e := e)
    have h2 : (xs.take k).length ≤ k := by simp; omega
    simp only; omega
theorem mid_yes {xs : List NV} {e x : NV} {k : Nat} (h1 : (setTo xs e k).2 = false) (h2 : Op.bytesLess x.name e.name = false) : midSet xs e k x = ((setTo xs e k).1 ++ [e], true) := if_pos ⟨h1, h2⟩
theorem mid_no1 {xs : List NV} {e x : NV} {k : Nat} (h1 : (setTo xs e k).2 = true) : midSet xs e k x = setTo xs e k := if_neg (fun h => by rw [h1] at h; cases h.1)
theorem mid_no2 {xs : List NV} {e x : NV} {k : Nat} (h2 : Op.bytesLess x.name e.name = true) : midSet xs e k x = setTo xs e k := if_neg (fun h => by rw [h2] at h; cases h.2)
theorem mergeG_yes {base a b ys : List NV} {k : Nat} {n : List UInt8} (h : (names3 base a b)[k]? = some n) (hy : okState ys = true) (hmv : mergeV base a b n = vIn ys n) (hnm : (getZ ys n).name ≠ []) :
    (mergeTo base a b k).map encNV ++ [encNV (getZ ys n)] = (mergeTo base a b (k + 1)).map encNV := by
  rcases get_cases hy n with ⟨_, h2⟩ | ⟨h1, h2⟩
  · rw [h2] at hnm; exact absurd rfl hnm
  · rw [← merge_yes h hmv h1, h2]; rfl
theorem mergeG_no {base a b ys : List NV} {k : Nat} {n : List UInt8} (h : (names3 base a b)[k]? = some n) (hy : okState ys = true) (hn : n ≠ []) (hmv : mergeV base a b n = vIn ys n) (hnm : (getZ ys n).name = []) :
    mergeTo base a b (k + 1) = mergeTo base a b k := by
  rcases get_cases hy n with ⟨h1, h2⟩ | ⟨_, h2⟩
  · exact merge_no h (by rw [hmv, h1]; omega)
  · rw [h2] at hnm; exact absurd hnm hn
theorem rises_nil : Rises (namesOf []) := by simp [Rises, namesOf]
theorem insAll_len0 {xs : List NV} : (insAll [] xs).length ≤ xs.length := by have := insAll_len (acc := []) (xs := xs); simpa using this
theorem of_str_ne {s : List UInt8} (h : (!(s == [])) = true) : s ≠ [] := by simpa using h
theorem of_str_eq {s : List UInt8} (h : (!(s == [])) = false) : s = [] := by simpa using h
theorem confOf_len (base a b : List NV) : (conflictsOf base a b).1.length ≤ 1000 := by
  unfold conflictsOf
  split
  · rename_i h
    obtain ⟨⟨h1, h2⟩, h3⟩ : (okState base = true ∧ okState a = true) ∧ okState b = true := by simpa using h
    have h4 := conflL_len (base := base) (a := a) (b := b)
    have h5 := state_len h1; have h6 := state_len h2; have h7 := state_len h3
    simp only; omega
  · simp
theorem mergeSt_len (base a b : List NV) : (mergeStates base a b).1.length ≤ 1000 := by
  by_cases h : (okState base && okState a && okState b) = true
  · rw [mergeStates_ok h]; unfold merge2
    split
    · simp
    · split
      · simp
      · simp only; omega
  · rw [mergeStates_no h]; simp
end Go.V
/- The library contracts that the program calls, as theorems of this program: layings, and one application each. -/
namespace Go.Proofs
open Go.Shelf
def Tryd.lays128_ren : Go.Shelf.Ren := ⟨fun | 128 => 75 | n => n, fun | 51 => 104 | 3 => 3 | 4 => 4 | 46 => 91 | 5 => 5 | 9 => 9 | n => n, fun | n => n⟩
theorem Tryd.lays128 : Go.Proofs.Lays.n128 Tryd.prog Tryd.lays128_ren := {
  mixed := by kernel_rfl
  f128 := Tryd.func75.trans (congrArg some (by kernel_rfl))
  t3 := Tryd.underlying3
  a3 := Tryd.isAgg3
  z3 := Tryd.sizeOf3
  v3 := Tryd.zeroValue3
  t4 := Tryd.underlying4
  a4 := Tryd.isAgg4
  z4 := Tryd.sizeOf4
  v4 := Tryd.zeroValue4
  t5 := Tryd.underlying5
  a5 := Tryd.isAgg5
  z5 := Tryd.sizeOf5
  v5 := Tryd.zeroValue5
  t9 := Tryd.underlying9
  a9 := Tryd.isAgg9
  z9 := Tryd.sizeOf9
  v9 := Tryd.zeroValue9
  t46 := Tryd.underlying91
  a46 := Tryd.isAgg91
  z46 := Tryd.sizeOf91
  v46 := Tryd.zeroValue91
  t51 := Tryd.underlying104
  a51 := Tryd.isAgg104
  z51 := Tryd.sizeOf104
  v51 := Tryd.zeroValue104 }
theorem Tryd.bits_Len32 (x : Int) (w : World) (h0 : 0 ≤ x) (h1 : x ≤ 4294967295) :
    Calls Tryd.prog 75 #[.int .u32 x] w fun e w' => e = .returned (.int .i64 (Lib.bitLen x.toNat)) ∧ w' = w := Any.bits_Len32 Tryd.lays128 x w h0 h1
def Tryd.lays125_ren : Go.Shelf.Ren := ⟨fun | 125 => 58 | 128 => 75 | 129 => 76 | n => n, fun | 46 => 91 | 3 => 3 | 51 => 104 | 53 => 78 | 4 => 4 | 5 => 5 | 9 => 9 | n => n, fun | n => n⟩
theorem Tryd.lays125 : Go.Proofs.Lays.n125 Tryd.prog Tryd.lays125_ren := {
  mixed := by kernel_rfl
  f125 := Tryd.func58.trans (congrArg some (by kernel_rfl))
  f128 := Tryd.func75.trans (congrArg some (by kernel_rfl))
  f129 := Tryd.func76.trans (congrArg some (by kernel_rfl))
  t3 := Tryd.underlying3
  a3 := Tryd.isAgg3
  z3 := Tryd.sizeOf3
  v3 := Tryd.zeroValue3
  t4 := Tryd.underlying4
  a4 := Tryd.isAgg4
  z4 := Tryd.sizeOf4
  v4 := Tryd.zeroValue4
  t5 := Tryd.underlying5
  a5 := Tryd.isAgg5
  z5 := Tryd.sizeOf5
  v5 := Tryd.zeroValue5
  t9 := Tryd.underlying9
  a9 := Tryd.isAgg9
  z9 := Tryd.sizeOf9
  v9 := Tryd.zeroValue9
  t46 := Tryd.underlying91
  a46 := Tryd.isAgg91
  z46 := Tryd.sizeOf91
  v46 := Tryd.zeroValue91
  t51 := Tryd.underlying104
  a51 := Tryd.isAgg104
  z51 := Tryd.sizeOf104
  v51 := Tryd.zeroValue104
  t53 := Tryd.underlying78
  a53 := Tryd.isAgg78
  z53 := Tryd.sizeOf78
  v53 := Tryd.zeroValue78 }
theorem Tryd.bits_Len (x : Int) (w : World) (h0 : 0 ≤ x) (h1 : x ≤ 18446744073709551615) :
    Calls Tryd.prog 58 #[.int .u64 x] w fun e w' => e = .returned (.int .i64 (Lib.bitLen x.toNat)) ∧ w' = w := Any.bits_Len Tryd.lays125 x w h0 h1
def Tryd.lays213_ren : Go.Shelf.Ren := ⟨fun | 213 => 59 | 265 => 77 | n => n, fun | 9 => 9 | 3 => 3 | n => n, fun | n => n⟩
theorem Tryd.lays213 : Go.Proofs.Lays.n213 Tryd.prog Tryd.lays213_ren := {
  mixed := by kernel_rfl
  f213 := Tryd.func59.trans (congrArg some (by kernel_rfl))
  f265 := Tryd.func77.trans (congrArg some (by kernel_rfl))
  t3 := Tryd.underlying3
  a3 := Tryd.isAgg3
  z3 := Tryd.sizeOf3
  v3 := Tryd.zeroValue3
  t9 := Tryd.underlying9
  a9 := Tryd.isAgg9
  z9 := Tryd.sizeOf9
  v9 := Tryd.zeroValue9 }
open Go.RowKit in
theorem Tryd.bytealg_CompareString (a b : ByteArray) (w : World) :
    Calls Tryd.prog 59 #[.string a, .string b] w fun e w' => e = .returned (.int .i64 (Lib.compareBytes a.data.toList b.data.toList)) ∧ w' = w := Any.bytealg_CompareString Tryd.lays213 a b w
def Tryd.lays106_ren : Go.Shelf.Ren := ⟨fun | 106 => 33 | 213 => 59 | 265 => 77 | n => n, fun | 9 => 9 | 3 => 3 | n => n, fun | n => n⟩
theorem Tryd.lays106 : Go.Proofs.Lays.n106 Tryd.prog Tryd.lays106_ren := {
  mixed := by kernel_rfl
  f106 := Tryd.func33.trans (congrArg some (by kernel_rfl))
  f213 := Tryd.func59.trans (congrArg some (by kernel_rfl))
  f265 := Tryd.func77.trans (congrArg some (by kernel_rfl))
  t3 := Tryd.underlying3
  a3 := Tryd.isAgg3
  z3 := Tryd.sizeOf3
  v3 := Tryd.zeroValue3
  t9 := Tryd.underlying9
  a9 := Tryd.isAgg9
  z9 := Tryd.sizeOf9
  v9 := Tryd.zeroValue9 }
open Go.RowKit in
theorem Tryd.strings_Compare (a b : ByteArray) (w : World) :
    Calls Tryd.prog 33 #[.string a, .string b] w fun e w' => e = .returned (.int .i64 (Lib.compareBytes a.data.toList b.data.toList)) ∧ w' = w := Any.strings_Compare Tryd.lays106 a b w
def Tryd.lays129_ren : Go.Shelf.Ren := ⟨fun | 129 => 76 | n => n, fun | 53 => 78 | 3 => 3 | 4 => 4 | 46 => 91 | 5 => 5 | 9 => 9 | n => n, fun | n => n⟩
theorem Tryd.lays129 : Go.Proofs.Lays.n129 Tryd.prog Tryd.lays129_ren := {
  mixed := by kernel_rfl
  f129 := Tryd.func76.trans (congrArg some (by kernel_rfl))
  t3 := Tryd.underlying3
  a3 := Tryd.isAgg3
  z3 := Tryd.sizeOf3
  v3 := Tryd.zeroValue3
  t4 := Tryd.underlying4
  a4 := Tryd.isAgg4
  z4 := Tryd.sizeOf4
  v4 := Tryd.zeroValue4
  t5 := Tryd.underlying5
  a5 := Tryd.isAgg5
  z5 := Tryd.sizeOf5
  v5 := Tryd.zeroValue5
  t9 := Tryd.underlying9
  a9 := Tryd.isAgg9
  z9 := Tryd.sizeOf9
  v9 := Tryd.zeroValue9
  t46 := Tryd.underlying91
  a46 := Tryd.isAgg91
  z46 := Tryd.sizeOf91
  v46 := Tryd.zeroValue91
  t53 := Tryd.underlying78
  a53 := Tryd.isAgg78
  z53 := Tryd.sizeOf78
  v53 := Tryd.zeroValue78 }
theorem Tryd.bits_Len64 (x : Int) (w : World) (h0 : 0 ≤ x) (h1 : x ≤ 18446744073709551615) :
    Calls Tryd.prog 76 #[.int .u64 x] w fun e w' => e = .returned (.int .i64 (Lib.bitLen x.toNat)) ∧ w' = w := Any.bits_Len64 Tryd.lays129 x w h0 h1
def Tryd.lays317_ren : Go.Shelf.Ren := ⟨fun | 317 => 92 | n => n, fun | 3 => 3 | 46 => 91 | n => n, fun | n => n⟩
theorem Tryd.lays317 : Go.Proofs.Lays.n317 Tryd.prog Tryd.lays317_ren := {
  mixed := by kernel_rfl
  f317 := Tryd.func92.trans (congrArg some (by kernel_rfl))
  t3 := Tryd.underlying3
  a3 := Tryd.isAgg3
  z3 := Tryd.sizeOf3
  v3 := Tryd.zeroValue3
  t46 := Tryd.underlying91
  a46 := Tryd.isAgg91
  z46 := Tryd.sizeOf91
  v46 := Tryd.zeroValue91 }
open Go.Lib in
theorem Tryd.internal_strconv_log10Pow2 (x : Nat) (h : x ≤ 64) (w : World) :
    Calls Tryd.prog 92 #[.int .i64 x] w fun e w' => e = .returned (.int .i64 (Lib.l10 x)) ∧ w' = w := Any.internal_strconv_log10Pow2 Tryd.lays317 x h w
def Tryd.lays318_ren : Go.Shelf.Ren := ⟨fun | 318 => 93 | n => n, fun | 3 => 3 | 4 => 4 | n => n, fun | n => n⟩
theorem Tryd.lays318 : Go.Proofs.Lays.n318 Tryd.prog Tryd.lays318_ren := {
  mixed := by kernel_rfl
  f318 := Tryd.func93.trans (congrArg some (by kernel_rfl))
  t3 := Tryd.underlying3
  a3 := Tryd.isAgg3
  z3 := Tryd.sizeOf3
  v3 := Tryd.zeroValue3
  t4 := Tryd.underlying4
  a4 := Tryd.isAgg4
  z4 := Tryd.sizeOf4
  v4 := Tryd.zeroValue4 }
open Go.Lib in
theorem Tryd.internal_strconv_bool2_int (b : Bool) (w : World) :
    Calls Tryd.prog 93 #[.bool b] w fun e w' => e = .returned (.int .i64 (if b then 1 else 0)) ∧ w' = w := Any.internal_strconv_bool2_int Tryd.lays318 b w
def Tryd.lays283_ren : Go.Shelf.Ren := ⟨fun | 283 => 86 | n => n, fun | 3 => 3 | 9 => 9 | 4 => 4 | n => n, fun | n => n⟩
theorem Tryd.lays283 : Go.Proofs.Lays.n283 Tryd.prog Tryd.lays283_ren := {
  mixed := by kernel_rfl
  f283 := Tryd.func86.trans (congrArg some (by kernel_rfl))
  t3 := Tryd.underlying3
  a3 := Tryd.isAgg3
  z3 := Tryd.sizeOf3
  v3 := Tryd.zeroValue3
  t4 := Tryd.underlying4
  a4 := Tryd.isAgg4
  z4 := Tryd.sizeOf4
  v4 := Tryd.zeroValue4
  t9 := Tryd.underlying9
  a9 := Tryd.isAgg9
  z9 := Tryd.sizeOf9
  v9 := Tryd.zeroValue9 }
open Go.Lib in
theorem Tryd.internal_strconv_small (i : Nat) (h : i < 100) (w : World) :
    Calls Tryd.prog 86 #[.int .i64 i] w fun e w' => e = .returned (.string ⟨(Lib.decDigits i).toArray⟩) ∧ w' = w := Any.internal_strconv_small Tryd.lays283 i h w
def Tryd.laysM284_ren : Go.Shelf.Ren := ⟨fun | 284 => 87 | 129 => 76 | 317 => 92 | 318 => 93 | n => n, fun | 53 => 78 | 3 => 3 | 212 => 125 | 0 => 0 | 4 => 4 | 46 => 91 | 5 => 5 | 9 => 9 | n => n, fun | 17 => 1 | n => n⟩
theorem Tryd.laysM284 : Go.Proofs.LaysM.n284 Tryd.prog Tryd.laysM284_ren := {
  mixed := by kernel_rfl
  f129 := Tryd.func76.trans (congrArg some (by kernel_rfl))
  f284 := Tryd.func87.trans (congrArg some (by kernel_rfl))
  f317 := Tryd.func92.trans (congrArg some (by kernel_rfl))
  f318 := Tryd.func93.trans (congrArg some (by kernel_rfl))
  t0 := Tryd.underlying0
  a0 := Tryd.isAgg0
  z0 := Tryd.sizeOf0
  v0 := Tryd.zeroValue0
  t3 := Tryd.underlying3
  a3 := Tryd.isAgg3
  z3 := Tryd.sizeOf3
  v3 := Tryd.zeroValue3
  t4 := Tryd.underlying4
  a4 := Tryd.isAgg4
  z4 := Tryd.sizeOf4
  v4 := Tryd.zeroValue4
  t5 := Tryd.underlying5
  a5 := Tryd.isAgg5
  z5 := Tryd.sizeOf5
  v5 := Tryd.zeroValue5
  t9 := Tryd.underlying9
  a9 := Tryd.isAgg9
  z9 := Tryd.sizeOf9
  v9 := Tryd.zeroValue9
  t46 := Tryd.underlying91
  a46 := Tryd.isAgg91
  z46 := Tryd.sizeOf91
  v46 := Tryd.zeroValue91
  t53 := Tryd.underlying78
  a53 := Tryd.isAgg78
  z53 := Tryd.sizeOf78
  v53 := Tryd.zeroValue78
  t212 := Tryd.underlying125
  a212 := Tryd.isAgg125
  z212 := Tryd.sizeOf125
  v212 := Tryd.zeroValue125
  g17 := by kernel_rfl
  i0 := by kernel_rfl
  i3 := by kernel_rfl
  i4 := by kernel_rfl
  i5 := by kernel_rfl
  i9 := by kernel_rfl
  i46 := by kernel_rfl
  i53 := by kernel_rfl
  i212 := by kernel_rfl
  m17 := by kernel_rfl }
open Go.Lib in
theorem Tryd.internal_strconv_numDigits (u : Nat) (h1 : 1 ≤ u) (h2 : u < 18446744073709551616) (w : World) (htab : Lib.TabIs Tryd.prog w "internal/strconv.uint64pow10" .u64 Lib.pow10Tab) :
    Calls Tryd.prog 87 #[.int .u64 u] w fun e w' => e = .returned (.int .i64 (Lib.nDigits u)) ∧ w' = w := Any.internal_strconv_numDigits Tryd.laysM284 u h1 h2 w htab
def Tryd.lays285_ren : Go.Shelf.Ren := ⟨fun | 285 => 88 | n => n, fun | 37 => 22 | 53 => 78 | 3 => 3 | 4 => 4 | 51 => 104 | 9 => 9 | 5 => 5 | 0 => 0 | n => n, fun | n => n⟩
theorem Tryd.lays285 : Go.Proofs.Lays.n285 Tryd.prog Tryd.lays285_ren := {
  mixed := by kernel_rfl
  f285 := Tryd.func88.trans (congrArg some (by kernel_rfl))
  t0 := Tryd.underlying0
  a0 := Tryd.isAgg0
  z0 := Tryd.sizeOf0
  v0 := Tryd.zeroValue0
  t3 := Tryd.underlying3
  a3 := Tryd.isAgg3
  z3 := Tryd.sizeOf3
  v3 := Tryd.zeroValue3
  t4 := Tryd.underlying4
  a4 := Tryd.isAgg4
  z4 := Tryd.sizeOf4
  v4 := Tryd.zeroValue4
  t5 := Tryd.underlying5
  a5 := Tryd.isAgg5
  z5 := Tryd.sizeOf5
  v5 := Tryd.zeroValue5
  t9 := Tryd.underlying9
  a9 := Tryd.isAgg9
  z9 := Tryd.sizeOf9
  v9 := Tryd.zeroValue9
  t37 := Tryd.underlying22
  a37 := Tryd.isAgg22
  z37 := Tryd.sizeOf22
  v37 := Tryd.zeroValue22
  t51 := Tryd.underlying104
  a51 := Tryd.isAgg104
  z51 := Tryd.sizeOf104
  v51 := Tryd.zeroValue104
  t53 := Tryd.underlying78
  a53 := Tryd.isAgg78
  z53 := Tryd.sizeOf78
  v53 := Tryd.zeroValue78 }
open Go.RowKit Go.Sort Go.Lib in
theorem Tryd.internal_strconv_formatBase10 (blk off cap : Nat) (u : Nat) (d : Array UInt8) (w : World) (hH : Holds (fun (b : UInt8) => Value.int .u8 (b.toNat : Int)) w blk off d) (hu : u < 10 ^ d.size) (hu64 : u < 18446744073709551616) (hsz : d.size < 4611686018427387904) :
    Calls Tryd.prog 88 #[.slice (some ⟨blk, off, none⟩) d.size cap, .int .u64 u] w fun e w' =>
      e = .returned (.tuple #[]) ∧ ∃ (n v' : Nat) (dk : Array UInt8), w' = (putRow (fun (b : UInt8) => Value.int .u8 (b.toNat : Int)) w blk off dk).drewN n ∧ FmtInv d.size u 0 v' dk := Any.internal_strconv_formatBase10 Tryd.lays285 blk off cap u d w hH hu hu64 hsz
def Tryd.laysM246_ren : Go.Shelf.Ren := ⟨fun | 246 => 78 | 283 => 86 | 284 => 87 | 285 => 88 | 286 => 89 | 129 => 76 | 317 => 92 | 318 => 93 | 319 => 94 | 320 => 95 | 337 => 98 | 338 => 99 | n => n, fun | 2 => 2 | 3 => 3 | 9 => 9 | 4 => 4 | 171 => 116 | 0 => 0 | 53 => 78 | 37 => 22 | 5 => 5 | 173 => 118 | 212 => 125 | 51 => 104 | 20 => 20 | 213 => 126 | 46 => 91 | 232 => 129 | 233 => 130 | n => n, fun | 17 => 1 | 18 => 2 | 19 => 3 | n => n⟩
theorem Tryd.laysM246 : Go.Proofs.LaysM.n246 Tryd.prog Tryd.laysM246_ren := {
  mixed := by kernel_rfl
  f129 := Tryd.func76.trans (congrArg some (by kernel_rfl))
  f246 := Tryd.func78.trans (congrArg some (by kernel_rfl))
  f283 := Tryd.func86.trans (congrArg some (by kernel_rfl))
  f284 := Tryd.func87.trans (congrArg some (by kernel_rfl))
  f285 := Tryd.func88.trans (congrArg some (by kernel_rfl))
  f286 := Tryd.func89.trans (congrArg some (by kernel_rfl))
  f317 := Tryd.func92.trans (congrArg some (by kernel_rfl))
  f318 := Tryd.func93.trans (congrArg some (by kernel_rfl))
  f319 := Tryd.func94.trans (congrArg some (by kernel_rfl))
  f320 := Tryd.func95.trans (congrArg some (by kernel_rfl))
  f337 := Tryd.func98.trans (congrArg some (by kernel_rfl))
  f338 := Tryd.func99.trans (congrArg some (by kernel_rfl))
  t0 := Tryd.underlying0
  a0 := Tryd.isAgg0
  z0 := Tryd.sizeOf0
  v0 := Tryd.zeroValue0
  t2 := Tryd.underlying2
  a2 := Tryd.isAgg2
  z2 := Tryd.sizeOf2
  v2 := Tryd.zeroValue2
  t3 := Tryd.underlying3
  a3 := Tryd.isAgg3
  z3 := Tryd.sizeOf3
  v3 := Tryd.zeroValue3
  t4 := Tryd.underlying4
  a4 := Tryd.isAgg4
  z4 := Tryd.sizeOf4
  v4 := Tryd.zeroValue4
  t5 := Tryd.underlying5
  a5 := Tryd.isAgg5
  z5 := Tryd.sizeOf5
  v5 := Tryd.zeroValue5
  t9 := Tryd.underlying9
  a9 := Tryd.isAgg9
  z9 := Tryd.sizeOf9
  v9 := Tryd.zeroValue9
  t20 := Tryd.underlying20
  a20 := Tryd.isAgg20
  z20 := Tryd.sizeOf20
  v20 := Tryd.zeroValue20
  t37 := Tryd.underlying22
  a37 := Tryd.isAgg22
  z37 := Tryd.sizeOf22
  v37 := Tryd.zeroValue22
  t46 := Tryd.underlying91
  a46 := Tryd.isAgg91
  z46 := Tryd.sizeOf91
  v46 := Tryd.zeroValue91
  t51 := Tryd.underlying104
  a51 := Tryd.isAgg104
  z51 := Tryd.sizeOf104
  v51 := Tryd.zeroValue104
  t53 := Tryd.underlying78
  a53 := Tryd.isAgg78
  z53 := Tryd.sizeOf78
  v53 := Tryd.zeroValue78
  t171 := Tryd.underlying116
  a171 := Tryd.isAgg116
  z171 := Tryd.sizeOf116
  v171 := Tryd.zeroValue116
  t173 := Tryd.underlying118
  a173 := Tryd.isAgg118
  z173 := Tryd.sizeOf118
  v173 := Tryd.zeroValue118
  t212 := Tryd.underlying125
  a212 := Tryd.isAgg125
  z212 := Tryd.sizeOf125
  v212 := Tryd.zeroValue125
  t213 := Tryd.underlying126
  a213 := Tryd.isAgg126
  z213 := Tryd.sizeOf126
  t232 := Tryd.underlying129
  a232 := Tryd.isAgg129
  z232 := Tryd.sizeOf129
  v232 := Tryd.zeroValue129
  t233 := Tryd.underlying130
  a233 := Tryd.isAgg130
  z233 := Tryd.sizeOf130
  v233 := Tryd.zeroValue130
  g17 := by kernel_rfl
  g18 := by kernel_rfl
  g19 := by kernel_rfl
  i0 := by kernel_rfl
  i2 := by kernel_rfl
  i3 := by kernel_rfl
  i4 := by kernel_rfl
  i5 := by kernel_rfl
  i9 := by kernel_rfl
  i20 := by kernel_rfl
  i37 := by kernel_rfl
  i46 := by kernel_rfl
  i51 := by kernel_rfl
  i53 := by kernel_rfl
  i171 := by kernel_rfl
  i173 := by kernel_rfl
  i212 := by kernel_rfl
  i232 := by kernel_rfl
  i233 := by kernel_rfl
  m17 := by kernel_rfl
  m18 := by kernel_rfl
  m19 := by kernel_rfl }
open Go.RowKit Go.Sort Go.Lib in
theorem Tryd.internal_strconv_FormatInt_10 (n : Int) (h0 : -9223372036854775808 ≤ n) (h1 : n ≤ 9223372036854775807) (w : World) (htab : Lib.TabIs Tryd.prog w "internal/strconv.uint64pow10" .u64 Lib.pow10Tab) :
    Calls Tryd.prog 78 #[.int .i64 n, .int .i64 10] w fun e w' => e = .returned (.string ⟨(Lib.itoa n).toArray⟩) ∧ ∃ k os, w' = grow (w.drewN k) os := Any.internal_strconv_FormatInt_10 Tryd.laysM246 n h0 h1 w htab
def Tryd.lays246_ren : Go.Shelf.Ren := ⟨fun | 246 => 78 | 283 => 86 | 284 => 87 | 285 => 88 | 286 => 89 | 129 => 76 | 317 => 92 | 318 => 93 | 319 => 94 | 320 => 95 | 337 => 98 | 338 => 99 | n => n, fun | 2 => 2 | 3 => 3 | 9 => 9 | 4 => 4 | 171 => 116 | 0 => 0 | 53 => 78 | 37 => 22 | 5 => 5 | 173 => 118 | 212 => 125 | 51 => 104 | 20 => 20 | 213 => 126 | 46 => 91 | 232 => 129 | 233 => 130 | n => n, fun | 17 => 1 | 18 => 2 | 19 => 3 | n => n⟩
theorem Tryd.lays246 : Go.Proofs.Lays.n246 Tryd.prog Tryd.lays246_ren := {
  mixed := by kernel_rfl
  f129 := Tryd.func76.trans (congrArg some (by kernel_rfl))
  f246 := Tryd.func78.trans (congrArg some (by kernel_rfl))
  f283 := Tryd.func86.trans (congrArg some (by kernel_rfl))
  f284 := Tryd.func87.trans (congrArg some (by kernel_rfl))
  f285 := Tryd.func88.trans (congrArg some (by kernel_rfl))
  f286 := Tryd.func89.trans (congrArg some (by kernel_rfl))
  f317 := Tryd.func92.trans (congrArg some (by kernel_rfl))
  f318 := Tryd.func93.trans (congrArg some (by kernel_rfl))
  f319 := Tryd.func94.trans (congrArg some (by kernel_rfl))
  f320 := Tryd.func95.trans (congrArg some (by kernel_rfl))
  f337 := Tryd.func98.trans (congrArg some (by kernel_rfl))
  f338 := Tryd.func99.trans (congrArg some (by kernel_rfl))
  t0 := Tryd.underlying0
  a0 := Tryd.isAgg0
  z0 := Tryd.sizeOf0
  v0 := Tryd.zeroValue0
  t2 := Tryd.underlying2
  a2 := Tryd.isAgg2
  z2 := Tryd.sizeOf2
  v2 := Tryd.zeroValue2
  t3 := Tryd.underlying3
  a3 := Tryd.isAgg3
  z3 := Tryd.sizeOf3
  v3 := Tryd.zeroValue3
  t4 := Tryd.underlying4
  a4 := Tryd.isAgg4
  z4 := Tryd.sizeOf4
  v4 := Tryd.zeroValue4
  t5 := Tryd.underlying5
  a5 := Tryd.isAgg5
  z5 := Tryd.sizeOf5
  v5 := Tryd.zeroValue5
  t9 := Tryd.underlying9
  a9 := Tryd.isAgg9
  z9 := Tryd.sizeOf9
  v9 := Tryd.zeroValue9
  t20 := Tryd.underlying20
  a20 := Tryd.isAgg20
  z20 := Tryd.sizeOf20
  v20 := Tryd.zeroValue20
  t37 := Tryd.underlying22
  a37 := Tryd.isAgg22
  z37 := Tryd.sizeOf22
  v37 := Tryd.zeroValue22
  t46 := Tryd.underlying91
  a46 := Tryd.isAgg91
  z46 := Tryd.sizeOf91
  v46 := Tryd.zeroValue91
  t51 := Tryd.underlying104
  a51 := Tryd.isAgg104
  z51 := Tryd.sizeOf104
  v51 := Tryd.zeroValue104
  t53 := Tryd.underlying78
  a53 := Tryd.isAgg78
  z53 := Tryd.sizeOf78
  v53 := Tryd.zeroValue78
  t171 := Tryd.underlying116
  a171 := Tryd.isAgg116
  z171 := Tryd.sizeOf116
  v171 := Tryd.zeroValue116
  t173 := Tryd.underlying118
  a173 := Tryd.isAgg118
  z173 := Tryd.sizeOf118
  v173 := Tryd.zeroValue118
  t212 := Tryd.underlying125
  a212 := Tryd.isAgg125
  z212 := Tryd.sizeOf125
  v212 := Tryd.zeroValue125
  t213 := Tryd.underlying126
  a213 := Tryd.isAgg126
  z213 := Tryd.sizeOf126
  t232 := Tryd.underlying129
  a232 := Tryd.isAgg129
  z232 := Tryd.sizeOf129
  v232 := Tryd.zeroValue129
  t233 := Tryd.underlying130
  a233 := Tryd.isAgg130
  z233 := Tryd.sizeOf130
  v233 := Tryd.zeroValue130
  g17 := by kernel_rfl
  g18 := by kernel_rfl
  g19 := by kernel_rfl }
open Go.RowKit Go.Sort Go.Lib in
theorem Tryd.internal_strconv_FormatInt_10_small (i : Nat) (hi : i < 100) (w : World) :
    Calls Tryd.prog 78 #[.int .i64 i, .int .i64 10] w fun e w' => e = .returned (.string ⟨(Lib.decDigits i).toArray⟩) ∧ w' = w := Any.internal_strconv_FormatInt_10_small Tryd.lays246 i hi w
def Tryd.laysM173_ren : Go.Shelf.Ren := ⟨fun | 173 => 60 | 246 => 78 | 283 => 86 | 284 => 87 | 285 => 88 | 286 => 89 | 129 => 76 | 317 => 92 | 318 => 93 | 319 => 94 | 320 => 95 | 337 => 98 | 338 => 99 | n => n, fun | 2 => 2 | 3 => 3 | 9 => 9 | 4 => 4 | 171 => 116 | 0 => 0 | 53 => 78 | 37 => 22 | 5 => 5 | 173 => 118 | 212 => 125 | 51 => 104 | 20 => 20 | 213 => 126 | 46 => 91 | 232 => 129 | 233 => 130 | n => n, fun | 17 => 1 | 18 => 2 | 19 => 3 | n => n⟩
theorem Tryd.laysM173 : Go.Proofs.LaysM.n173 Tryd.prog Tryd.laysM173_ren := {
  mixed := by kernel_rfl
  f129 := Tryd.func76.trans (congrArg some (by kernel_rfl))
  f173 := Tryd.func60.trans (congrArg some (by kernel_rfl))
  f246 := Tryd.func78.trans (congrArg some (by kernel_rfl))
  f283 := Tryd.func86.trans (congrArg some (by kernel_rfl))
  f284 := Tryd.func87.trans (congrArg some (by kernel_rfl))
  f285 := Tryd.func88.trans (congrArg some (by kernel_rfl))
  f286 := Tryd.func89.trans (congrArg some (by kernel_rfl))
  f317 := Tryd.func92.trans (congrArg some (by kernel_rfl))
  f318 := Tryd.func93.trans (congrArg some (by kernel_rfl))
  f319 := Tryd.func94.trans (congrArg some (by kernel_rfl))
  f320 := Tryd.func95.trans (congrArg some (by kernel_rfl))
  f337 := Tryd.func98.trans (congrArg some (by kernel_rfl))
  f338 := Tryd.func99.trans (congrArg some (by kernel_rfl))
  t0 := Tryd.underlying0
  a0 := Tryd.isAgg0
  z0 := Tryd.sizeOf0
  v0 := Tryd.zeroValue0
  t2 := Tryd.underlying2
  a2 := Tryd.isAgg2
  z2 := Tryd.sizeOf2
  v2 := Tryd.zeroValue2
  t3 := Tryd.underlying3
  a3 := Tryd.isAgg3
  z3 := Tryd.sizeOf3
  v3 := Tryd.zeroValue3
  t4 := Tryd.underlying4
  a4 := Tryd.isAgg4
  z4 := Tryd.sizeOf4
  v4 := Tryd.zeroValue4
  t5 := Tryd.underlying5
  a5 := Tryd.isAgg5
  z5 := Tryd.sizeOf5
  v5 := Tryd.zeroValue5
  t9 := Tryd.underlying9
  a9 := Tryd.isAgg9
  z9 := Tryd.sizeOf9
  v9 := Tryd.zeroValue9
  t20 := Tryd.underlying20
  a20 := Tryd.isAgg20
  z20 := Tryd.sizeOf20
  v20 := Tryd.zeroValue20
  t37 := Tryd.underlying22
  a37 := Tryd.isAgg22
  z37 := Tryd.sizeOf22
  v37 := Tryd.zeroValue22
  t46 := Tryd.underlying91
  a46 := Tryd.isAgg91
  z46 := Tryd.sizeOf91
  v46 := Tryd.zeroValue91
  t51 := Tryd.underlying104
  a51 := Tryd.isAgg104
  z51 := Tryd.sizeOf104
  v51 := Tryd.zeroValue104
  t53 := Tryd.underlying78
  a53 := Tryd.isAgg78
  z53 := Tryd.sizeOf78
  v53 := Tryd.zeroValue78
  t171 := Tryd.underlying116
  a171 := Tryd.isAgg116
  z171 := Tryd.sizeOf116
  v171 := Tryd.zeroValue116
  t173 := Tryd.underlying118
  a173 := Tryd.isAgg118
  z173 := Tryd.sizeOf118
  v173 := Tryd.zeroValue118
  t212 := Tryd.underlying125
  a212 := Tryd.isAgg125
  z212 := Tryd.sizeOf125
  v212 := Tryd.zeroValue125
  t213 := Tryd.underlying126
  a213 := Tryd.isAgg126
  z213 := Tryd.sizeOf126
  t232 := Tryd.underlying129
  a232 := Tryd.isAgg129
  z232 := Tryd.sizeOf129
  v232 := Tryd.zeroValue129
  t233 := Tryd.underlying130
  a233 := Tryd.isAgg130
  z233 := Tryd.sizeOf130
  v233 := Tryd.zeroValue130
  g17 := by kernel_rfl
  g18 := by kernel_rfl
  g19 := by kernel_rfl
  i0 := by kernel_rfl
  i2 := by kernel_rfl
  i3 := by kernel_rfl
  i4 := by kernel_rfl
  i5 := by kernel_rfl
  i9 := by kernel_rfl
  i20 := by kernel_rfl
  i37 := by kernel_rfl
  i46 := by kernel_rfl
  i51 := by kernel_rfl
  i53 := by kernel_rfl
  i171 := by kernel_rfl
  i173 := by kernel_rfl
  i212 := by kernel_rfl
  i232 := by kernel_rfl
  i233 := by kernel_rfl
  m17 := by kernel_rfl
  m18 := by kernel_rfl
  m19 := by kernel_rfl }
open Go.RowKit Go.Sort Go.Lib in
theorem Tryd.strconv_FormatInt_10 (n : Int) (h0 : -9223372036854775808 ≤ n) (h1 : n ≤ 9223372036854775807) (w : World) (htab : Lib.TabIs Tryd.prog w "internal/strconv.uint64pow10" .u64 Lib.pow10Tab) :
    Calls Tryd.prog 60 #[.int .i64 n, .int .i64 10] w fun e w' => e = .returned (.string ⟨(Lib.itoa n).toArray⟩) ∧ ∃ k os, w' = grow (w.drewN k) os := Any.strconv_FormatInt_10 Tryd.laysM173 n h0 h1 w htab
def Tryd.lays173_ren : Go.Shelf.Ren := ⟨fun | 173 => 60 | 246 => 78 | 283 => 86 | 284 => 87 | 285 => 88 | 286 => 89 | 129 => 76 | 317 => 92 | 318 => 93 | 319 => 94 | 320 => 95 | 337 => 98 | 338 => 99 | n => n, fun | 2 => 2 | 3 => 3 | 9 => 9 | 4 => 4 | 171 => 116 | 0 => 0 | 53 => 78 | 37 => 22 | 5 => 5 | 173 => 118 | 212 => 125 | 51 => 104 | 20 => 20 | 213 => 126 | 46 => 91 | 232 => 129 | 233 => 130 | n => n, fun | 17 => 1 | 18 => 2 | 19 => 3 | n => n⟩
theorem Tryd.lays173 : Go.Proofs.Lays.n173 Tryd.prog Tryd.lays173_ren := {
  mixed := by kernel_rfl
  f129 := Tryd.func76.trans (congrArg some (by kernel_rfl))
  f173 := Tryd.func60.trans (congrArg some (by kernel_rfl))
  f246 := Tryd.func78.trans (congrArg some (by kernel_rfl))
  f283 := Tryd.func86.trans (congrArg some (by kernel_rfl))
  f284 := Tryd.func87.trans (congrArg some (by kernel_rfl))
  f285 := Tryd.func88.trans (congrArg some (by kernel_rfl))
  f286 := Tryd.func89.trans (congrArg some (by kernel_rfl))
  f317 := Tryd.func92.trans (congrArg some (by kernel_rfl))
  f318 := Tryd.func93.trans (congrArg some (by kernel_rfl))
  f319 := Tryd.func94.trans (congrArg some (by kernel_rfl))
  f320 := Tryd.func95.trans (congrArg some (by kernel_rfl))
  f337 := Tryd.func98.trans (congrArg some (by kernel_rfl))
  f338 := Tryd.func99.trans (congrArg some (by kernel_rfl))
  t0 := Tryd.underlying0
  a0 := Tryd.isAgg0
  z0 := Tryd.sizeOf0
  v0 := Tryd.zeroValue0
  t2 := Tryd.underlying2
  a2 := Tryd.isAgg2
  z2 := Tryd.sizeOf2
  v2 := Tryd.zeroValue2
  t3 := Tryd.underlying3
  a3 := Tryd.isAgg3
  z3 := Tryd.sizeOf3
  v3 := Tryd.zeroValue3
  t4 := Tryd.underlying4
  a4 := Tryd.isAgg4
  z4 := Tryd.sizeOf4
  v4 := Tryd.zeroValue4
  t5 := Tryd.underlying5
  a5 := Tryd.isAgg5
  z5 := Tryd.sizeOf5
  v5 := Tryd.zeroValue5
  t9 := Tryd.underlying9
  a9 := Tryd.isAgg9
  z9 := Tryd.sizeOf9
  v9 := Tryd.zeroValue9
  t20 := Tryd.underlying20
  a20 := Tryd.isAgg20
  z20 := Tryd.sizeOf20
  v20 := Tryd.zeroValue20
  t37 := Tryd.underlying22
  a37 := Tryd.isAgg22
  z37 := Tryd.sizeOf22
  v37 := Tryd.zeroValue22
  t46 := Tryd.underlying91
  a46 := Tryd.isAgg91
  z46 := Tryd.sizeOf91
  v46 := Tryd.zeroValue91
  t51 := Tryd.underlying104
  a51 := Tryd.isAgg104
  z51 := Tryd.sizeOf104
  v51 := Tryd.zeroValue104
  t53 := Tryd.underlying78
  a53 := Tryd.isAgg78
  z53 := Tryd.sizeOf78
  v53 := Tryd.zeroValue78
  t171 := Tryd.underlying116
  a171 := Tryd.isAgg116
  z171 := Tryd.sizeOf116
  v171 := Tryd.zeroValue116
  t173 := Tryd.underlying118
  a173 := Tryd.isAgg118
  z173 := Tryd.sizeOf118
  v173 := Tryd.zeroValue118
  t212 := Tryd.underlying125
  a212 := Tryd.isAgg125
  z212 := Tryd.sizeOf125
  v212 := Tryd.zeroValue125
  t213 := Tryd.underlying126
  a213 := Tryd.isAgg126
  z213 := Tryd.sizeOf126
  t232 := Tryd.underlying129
  a232 := Tryd.isAgg129
  z232 := Tryd.sizeOf129
  v232 := Tryd.zeroValue129
  t233 := Tryd.underlying130
  a233 := Tryd.isAgg130
  z233 := Tryd.sizeOf130
  v233 := Tryd.zeroValue130
  g17 := by kernel_rfl
  g18 := by kernel_rfl
  g19 := by kernel_rfl }
open Go.RowKit Go.Sort Go.Lib in
theorem Tryd.strconv_FormatInt_10_small (i : Nat) (hi : i < 100) (w : World) :
    Calls Tryd.prog 60 #[.int .i64 i, .int .i64 10] w fun e w' => e = .returned (.string ⟨(Lib.decDigits i).toArray⟩) ∧ w' = w := Any.strconv_FormatInt_10_small Tryd.lays173 i hi w
end Go.Proofs
/- Contracts of functions of the program, each by a walk of its text in the calculus V. -/
set_option linter.all false
set_option linter.unusedSimpArgs false
set_option linter.unnecessarySimpa false
set_option linter.unusedVariables false
namespace Go.Proofs.YtmnmaakaneaiaaaDoor
open Go Go.V



end Go.Proofs.YtmnmaakaneaiaaaDoor
/- Contracts of functions of the program, each by a walk of its text in the calculus V. -/
set_option linter.all false
set_option linter.unusedSimpArgs false
set_option linter.unnecessarySimpa false
set_option linter.unusedVariables false
namespace Go.Proofs.YtmnmaakaneaiaaaDoor
open Go Go.V

theorem spec_l27Set_c {xs : List NV} {e : NV} (hr : Rises (namesOf xs)) (hn : xs.length ≤ 1048576) :
    FnE (α := Unit) Tryd.prog 51 [.p (.sl 2 (xs.map encNV)), .agg [.p (.v (str e.name)), .p (.v (.int .i64 e.val))]] [] [] (fun _ => True) (fun _ => .h 0) (fun _ => [(0, .vec 57 2 ((setL xs e).map encNV))]) := by
  refine FnE.intro Tryd.func51 rfl Tryd.ntmps51 rfl rfl (fun w0 F0 η φ w => ?_)
  refine AC.seq ?_
  refine AC.region ?_
  refine AO.box 0 rfl rfl rfl rfl rfl ?_
  refine AO.yld _ (Yld.assign rfl) rfl rfl rfl ?_
  refine AO.nil ?_
  refine AC.seq ?_
  refine AC.region ?_
  refine AO.buildSlice (rows := []) 1 Tryd.underlying26 ty57 rfl rfl rfl rfl rfl rfl rfl rfl rfl ?_
  refine AO.yld _ (Yld.assign rfl) rfl rfl rfl ?_
  refine AO.nil ?_
  refine AC.seq ?_
  refine AC.region ?_
  refine AO.yld _ (Yld.assign rfl) rfl rfl rfl ?_
  refine AO.nil ?_
  refine AC.seq ?_
  refine AC.seq ?_
  refine AC.region ?_
  refine AO.yld _ (Yld.assign rfl) rfl rfl rfl ?_
  refine AO.nil ?_
  refine AC.block ?_
  refine AC.loopC [(0, _), (3, _), (4, _)] [(0, _), (900, _)] (fun (k : Nat) => [(7, .p (.v (.int .i64 (k : Int)))), (6, .p (.v (.bool (setTo xs e k).2))), (5, .h 1)]) (fun (k : Nat) => [(1, .vec 57 2 ((setTo xs e k).1.map encNV))]) (fun (k : Nat) => k ≤ xs.length) (fun (k : Nat) => xs.length - k) 0 ⟨rfl, rfl, rfl, trivial⟩ ⟨rfl, rfl, trivial⟩ ⟨rfl, by rw [setTo_zero]; rfl, rfl, trivial⟩ ⟨rfl, trivial⟩ ?_ (fun k hJ => ?_)
  · exact Nat.zero_le _
  · -- round
    refine AC.seq ?_
    refine AC.seq ?_
    refine AC.region ?_
    refine AO.yld _ (Yld.move rfl) rfl rfl rfl ?_
    refine AO.yld _ (Yld.move rfl) rfl rfl rfl ?_
    refine AO.yld _ (Yld.len Tryd.underlying26 rfl rfl) rfl rfl rfl ?_
    refine AO.yld _ (Yld.int rfl rfl rfl) rfl rfl rfl ?_
    refine AO.nil ?_
    refine AC.cond _ rfl (fun c12 => ?_) (fun c12 => ?_)
    · -- c12 True
      have hk := lt_of_decM c12
      obtain ⟨x, hx⟩ := get_some hk
      have hrow := map_row (enc := encNV) hx
      refine AC.skip ?_
      refine AC.seq ?_
      refine AC.block ?_
      refine AC.seq ?_
      refine AC.seq ?_
      refine AC.draw (by kernel_rfl) (by kernel_rfl) ?_
      refine AO.yld _ (Yld.move rfl) rfl rfl rfl ?_
      refine AO.yld _ (Yld.not rfl) rfl rfl rfl ?_
      refine AO.yld _ (Yld.move rfl) rfl rfl rfl ?_
      refine AO.splitAt 17 _ rfl (fun s17 => ?_) (fun s17 => ?_)
      · -- s17 True
        have hd : (setTo xs e k).2 = false := by simpa using s17
        refine AO.yldG _ (Yld.move rfl) rfl rfl rfl rfl rfl ?_
        refine AO.yldG _ (Yld.move rfl) rfl rfl rfl rfl rfl ?_
        refine AO.yldG _ (Yld.indexSl Tryd.underlying26 Tryd.sizeOf57 rfl rfl hrow rfl) rfl rfl rfl rfl rfl ?_
        refine AO.yldG _ (Yld.fieldAddr Tryd.underlying57 rfl rfl Tryd.sizeOf9 rfl rfl rfl) rfl rfl rfl rfl rfl ?_
        refine AO.yldG _ (Yld.load Tryd.isAgg9 rfl rfl) rfl rfl rfl rfl rfl ?_
        refine AO.yldG _ (Yld.fieldAddr Tryd.underlying57 rfl rfl Tryd.sizeOf9 rfl rfl rfl) rfl rfl rfl rfl rfl ?_
        refine AO.yldG _ (Yld.load Tryd.isAgg9 rfl rfl) rfl rfl rfl rfl rfl ?_
        refine AO.yldG _ (Yld.cmpStr rfl rfl rfl) rfl rfl rfl rfl rfl ?_
        refine AO.yld _ (Yld.pickT rfl rfl) rfl rfl rfl ?_
        refine AO.nil ?_
        refine AC.cond _ rfl (fun c26 => ?_) (fun c26 => ?_)
        · -- c26 True
          have hmid : midSet xs e k x = ((setTo xs e k).1 ++ [e], true) := mid_yes hd (by simpa using c26)
          refine AC.seq ?_
          refine AC.region ?_
          refine AO.yld _ (Yld.move rfl) rfl rfl rfl ?_
          refine AO.yld _ (Yld.loadAgg Tryd.isAgg57 Tryd.sizeOf57 rfl rfl rfl rfl) rfl rfl rfl ?_
          refine AO.buildSlice (rows := [[_, _]]) 2 Tryd.underlying26 ty57 rfl rfl rfl rfl rfl rfl rfl rfl rfl ?_
          refine AO.append 1 Tryd.underlying26 ty57 rfl rfl rfl rfl rfl rfl rfl (by intro r hr q hq; simp only [List.mem_cons, List.not_mem_nil, or_false] at hr; subst hr; simp only [encNV, List.mem_cons, List.not_mem_nil, or_false] at hq; rcases hq with rfl | rfl <;> rfl) (by have := setTo_len (xs := xs) (e := e) (k := k); simp only [List.length_map, List.length_append, List.length_cons, List.length_nil]; omega) (by have := setTo_len (xs := xs) (e := e) (k := k); simp only [List.length_map, List.length_append, List.length_cons, List.length_nil]; omega) rfl ?_
          refine AO.yld _ (Yld.assign rfl) rfl rfl rfl ?_
          refine AO.nil ?_
          refine AC.region ?_
          refine AO.yld _ (Yld.assign rfl) rfl rfl rfl ?_
          refine AO.nil ?_
          refine AC.seq ?_
          refine AC.draw (by kernel_rfl) (by kernel_rfl) ?_
          refine AO.yld _ (Yld.move rfl) rfl rfl rfl ?_
          refine AO.yld _ (Yld.move rfl) rfl rfl rfl ?_
          refine AO.yld _ (Yld.indexSl Tryd.underlying26 Tryd.sizeOf57 rfl rfl hrow rfl) rfl rfl rfl ?_
          refine AO.yld _ (Yld.fieldAddr Tryd.underlying57 rfl rfl Tryd.sizeOf9 rfl rfl rfl) rfl rfl rfl ?_
          refine AO.yld _ (Yld.load Tryd.isAgg9 rfl rfl) rfl rfl rfl ?_
          refine AO.yld _ (Yld.fieldAddr Tryd.underlying57 rfl rfl Tryd.sizeOf9 rfl rfl rfl) rfl rfl rfl ?_
          refine AO.yld _ (Yld.load Tryd.isAgg9 rfl rfl) rfl rfl rfl ?_
          refine AO.yld _ (Yld.cmpStr rfl rfl rfl) rfl rfl rfl ?_
          refine AO.nil ?_
          refine AC.cond _ rfl (fun c38 => ?_) (fun c38 => ?_)
          · -- c38 True
            have hst : setTo xs e (k + 1) = ((midSet xs e k x).1 ++ [x], (midSet xs e k x).2) := by rw [setTo_succ hr hx, if_pos (by simpa using c38)]
            rw [hmid] at hst
            refine AC.region ?_
            refine AO.yld _ (Yld.move rfl) rfl rfl rfl ?_
            refine AO.yld _ (Yld.move rfl) rfl rfl rfl ?_
            refine AO.yld _ (Yld.move rfl) rfl rfl rfl ?_
            refine AO.yld _ (Yld.indexSl Tryd.underlying26 Tryd.sizeOf57 rfl rfl hrow rfl) rfl rfl rfl ?_
            refine AO.yld _ (Yld.loadAgg Tryd.isAgg57 Tryd.sizeOf57 rfl rfl rfl rfl) rfl rfl rfl ?_
            refine AO.buildSlice (rows := [[_, _]]) 3 Tryd.underlying26 ty57 rfl rfl rfl rfl rfl rfl rfl rfl rfl ?_
            refine AO.append 1 Tryd.underlying26 ty57 rfl rfl rfl rfl rfl rfl rfl (by intro r hr q hq; simp only [List.mem_cons, List.not_mem_nil, or_false] at hr; subst hr; simp only [encNV, List.mem_cons, List.not_mem_nil, or_false] at hq; rcases hq with rfl | rfl <;> rfl) (by have := setTo_len (xs := xs) (e := e) (k := k); simp only [List.length_map, List.length_append, List.length_cons, List.length_nil]; omega) (by have := setTo_len (xs := xs) (e := e) (k := k); simp only [List.length_map, List.length_append, List.length_cons, List.length_nil]; omega) rfl ?_
            refine AO.yld _ (Yld.assign rfl) rfl rfl rfl ?_
            refine AO.nil ?_
            refine AC.mark ?_
            refine AC.region ?_
            refine AO.yld _ (Yld.move rfl) rfl rfl rfl ?_
            refine AO.yld _ (Yld.add rfl rfl (by omega) (by omega)) rfl rfl rfl ?_
            refine AO.yld _ (Yld.assign rfl) rfl rfl rfl ?_
            refine AO.nil ?_
            refine AC.back ⟨k + 1, ?_, ?_, ⟨?_, ?_, ?_, trivial⟩, ⟨?_, trivial⟩, ⟨rfl, rfl, rfl, trivial⟩, ⟨rfl, rfl, trivial⟩⟩
            · exact hk
            · omega
            · rfl
            · rw [hst]; rfl
            · rfl
            · rw [hst]; first | rfl | (simp only [List.map_append, List.map_cons, List.map_nil]; rfl)
          · -- c38 False
            have hst : setTo xs e (k + 1) = midSet xs e k x := by rw [setTo_succ hr hx, if_neg (by simpa using c38)]
            rw [hmid] at hst
            refine AC.skip ?_
            refine AC.mark ?_
            refine AC.region ?_
            refine AO.yld _ (Yld.move rfl) rfl rfl rfl ?_
            refine AO.yld _ (Yld.add rfl rfl (by omega) (by omega)) rfl rfl rfl ?_
            refine AO.yld _ (Yld.assign rfl) rfl rfl rfl ?_
            refine AO.nil ?_
            refine AC.back ⟨k + 1, ?_, ?_, ⟨?_, ?_, ?_, trivial⟩, ⟨?_, trivial⟩, ⟨rfl, rfl, rfl, trivial⟩, ⟨rfl, rfl, trivial⟩⟩
            · exact hk
            · omega
            · rfl
            · rw [hst]; rfl
            · rfl
            · rw [hst]; first | rfl | (simp only [List.map_append, List.map_cons, List.map_nil]; rfl)
        · -- c26 False
          have hmid : midSet xs e k x = setTo xs e k := mid_no2 (by simpa using c26)
          refine AC.skip ?_
          refine AC.seq ?_
          refine AC.draw (by kernel_rfl) (by kernel_rfl) ?_
          refine AO.yld _ (Yld.move rfl) rfl rfl rfl ?_
          refine AO.yld _ (Yld.move rfl) rfl rfl rfl ?_
          refine AO.yld _ (Yld.indexSl Tryd.underlying26 Tryd.sizeOf57 rfl rfl hrow rfl) rfl rfl rfl ?_
          refine AO.yld _ (Yld.fieldAddr Tryd.underlying57 rfl rfl Tryd.sizeOf9 rfl rfl rfl) rfl rfl rfl ?_
          refine AO.yld _ (Yld.load Tryd.isAgg9 rfl rfl) rfl rfl rfl ?_
          refine AO.yld _ (Yld.fieldAddr Tryd.underlying57 rfl rfl Tryd.sizeOf9 rfl rfl rfl) rfl rfl rfl ?_
          refine AO.yld _ (Yld.load Tryd.isAgg9 rfl rfl) rfl rfl rfl ?_
          refine AO.yld _ (Yld.cmpStr rfl rfl rfl) rfl rfl rfl ?_
          refine AO.nil ?_
          refine AC.cond _ rfl (fun c38 => ?_) (fun c38 => ?_)
          · -- c38 True
            have hst : setTo xs e (k + 1) = ((midSet xs e k x).1 ++ [x], (midSet xs e k x).2) := by rw [setTo_succ hr hx, if_pos (by simpa using c38)]
            rw [hmid] at hst
            refine AC.region ?_
            refine AO.yld _ (Yld.move rfl) rfl rfl rfl ?_
            refine AO.yld _ (Yld.move rfl) rfl rfl rfl ?_
            refine AO.yld _ (Yld.move rfl) rfl rfl rfl ?_
            refine AO.yld _ (Yld.indexSl Tryd.underlying26 Tryd.sizeOf57 rfl rfl hrow rfl) rfl rfl rfl ?_
            refine AO.yld _ (Yld.loadAgg Tryd.isAgg57 Tryd.sizeOf57 rfl rfl rfl rfl) rfl rfl rfl ?_
            refine AO.buildSlice (rows := [[_, _]]) 2 Tryd.underlying26 ty57 rfl rfl rfl rfl rfl rfl rfl rfl rfl ?_
            refine AO.append 1 Tryd.underlying26 ty57 rfl rfl rfl rfl rfl rfl rfl (by intro r hr q hq; simp only [List.mem_cons, List.not_mem_nil, or_false] at hr; subst hr; simp only [encNV, List.mem_cons, List.not_mem_nil, or_false] at hq; rcases hq with rfl | rfl <;> rfl) (by have := setTo_len (xs := xs) (e := e) (k := k); simp only [List.length_map, List.length_append, List.length_cons, List.length_nil]; omega) (by have := setTo_len (xs := xs) (e := e) (k := k); simp only [List.length_map, List.length_append, List.length_cons, List.length_nil]; omega) rfl ?_
            refine AO.yld _ (Yld.assign rfl) rfl rfl rfl ?_
            refine AO.nil ?_
            refine AC.mark ?_
            refine AC.region ?_
            refine AO.yld _ (Yld.move rfl) rfl rfl rfl ?_
            refine AO.yld _ (Yld.add rfl rfl (by omega) (by omega)) rfl rfl rfl ?_
            refine AO.yld _ (Yld.assign rfl) rfl rfl rfl ?_
            refine AO.nil ?_
            refine AC.back ⟨k + 1, ?_, ?_, ⟨?_, ?_, ?_, trivial⟩, ⟨?_, trivial⟩, ⟨rfl, rfl, rfl, trivial⟩, ⟨rfl, rfl, trivial⟩⟩
            · exact hk
            · omega
            · rfl
            · rw [hst]; rfl
            · rfl
            · rw [hst]; first | rfl | (simp only [List.map_append, List.map_cons, List.map_nil]; rfl)
          · -- c38 False
            have hst : setTo xs e (k + 1) = midSet xs e k x := by rw [setTo_succ hr hx, if_neg (by simpa using c38)]
            rw [hmid] at hst
            refine AC.skip ?_
            refine AC.mark ?_
            refine AC.region ?_
            refine AO.yld _ (Yld.move rfl) rfl rfl rfl ?_
            refine AO.yld _ (Yld.add rfl rfl (by omega) (by omega)) rfl rfl rfl ?_
            refine AO.yld _ (Yld.assign rfl) rfl rfl rfl ?_
            refine AO.nil ?_
            refine AC.back ⟨k + 1, ?_, ?_, ⟨?_, ?_, ?_, trivial⟩, ⟨?_, trivial⟩, ⟨rfl, rfl, rfl, trivial⟩, ⟨rfl, rfl, trivial⟩⟩
            · exact hk
            · omega
            · rfl
            · rw [hst]; rfl
            · rfl
            · rw [hst]; first | rfl | (simp only [List.map_append, List.map_cons, List.map_nil]; rfl)
      · -- s17 False
        have hmid : midSet xs e k x = setTo xs e k := mid_no1 (by simpa using s17)
        refine AO.skipT rfl rfl rfl rfl rfl ?_
        refine AO.skipT rfl rfl rfl rfl rfl ?_
        refine AO.skipT rfl rfl rfl rfl rfl ?_
        refine AO.skipT rfl rfl rfl rfl rfl ?_
        refine AO.skipT rfl rfl rfl rfl rfl ?_
        refine AO.skipT rfl rfl rfl rfl rfl ?_
        refine AO.skipT rfl rfl rfl rfl rfl ?_
        refine AO.skipT rfl rfl rfl rfl rfl ?_
        refine AO.yld _ (Yld.pickF rfl rfl) rfl rfl rfl ?_
        refine AO.nil ?_
        refine AC.condF rfl ?_
        refine AC.skip ?_
        refine AC.seq ?_
        refine AC.draw (by kernel_rfl) (by kernel_rfl) ?_
        refine AO.yld _ (Yld.move rfl) rfl rfl rfl ?_
        refine AO.yld _ (Yld.move rfl) rfl rfl rfl ?_
        refine AO.yld _ (Yld.indexSl Tryd.underlying26 Tryd.sizeOf57 rfl rfl hrow rfl) rfl rfl rfl ?_
        refine AO.yld _ (Yld.fieldAddr Tryd.underlying57 rfl rfl Tryd.sizeOf9 rfl rfl rfl) rfl rfl rfl ?_
        refine AO.yld _ (Yld.load Tryd.isAgg9 rfl rfl) rfl rfl rfl ?_
        refine AO.yld _ (Yld.fieldAddr Tryd.underlying57 rfl rfl Tryd.sizeOf9 rfl rfl rfl) rfl rfl rfl ?_
        refine AO.yld _ (Yld.load Tryd.isAgg9 rfl rfl) rfl rfl rfl ?_
        refine AO.yld _ (Yld.cmpStr rfl rfl rfl) rfl rfl rfl ?_
        refine AO.nil ?_
        refine AC.cond _ rfl (fun c38 => ?_) (fun c38 => ?_)
        · -- c38 True
          have hst : setTo xs e (k + 1) = ((midSet xs e k x).1 ++ [x], (midSet xs e k x).2) := by rw [setTo_succ hr hx, if_pos (by simpa using c38)]
          rw [hmid] at hst
          refine AC.region ?_
          refine AO.yld _ (Yld.move rfl) rfl rfl rfl ?_
          refine AO.yld _ (Yld.move rfl) rfl rfl rfl ?_
          refine AO.yld _ (Yld.move rfl) rfl rfl rfl ?_
          refine AO.yld _ (Yld.indexSl Tryd.underlying26 Tryd.sizeOf57 rfl rfl hrow rfl) rfl rfl rfl ?_
          refine AO.yld _ (Yld.loadAgg Tryd.isAgg57 Tryd.sizeOf57 rfl rfl rfl rfl) rfl rfl rfl ?_
          refine AO.buildSlice (rows := [[_, _]]) 2 Tryd.underlying26 ty57 rfl rfl rfl rfl rfl rfl rfl rfl rfl ?_
          refine AO.append 1 Tryd.underlying26 ty57 rfl rfl rfl rfl rfl rfl rfl (by intro r hr q hq; simp only [List.mem_cons, List.not_mem_nil, or_false] at hr; subst hr; simp only [encNV, List.mem_cons, List.not_mem_nil, or_false] at hq; rcases hq with rfl | rfl <;> rfl) (by have := setTo_len (xs := xs) (e := e) (k := k); simp only [List.length_map, List.length_append, List.length_cons, List.length_nil]; omega) (by have := setTo_len (xs := xs) (e := e) (k := k); simp only [List.length_map, List.length_append, List.length_cons, List.length_nil]; omega) rfl ?_
          refine AO.yld _ (Yld.assign rfl) rfl rfl rfl ?_
          refine AO.nil ?_
          refine AC.mark ?_
          refine AC.region ?_
          refine AO.yld _ (Yld.move rfl) rfl rfl rfl ?_
          refine AO.yld _ (Yld.add rfl rfl (by omega) (by omega)) rfl rfl rfl ?_
          refine AO.yld _ (Yld.assign rfl) rfl rfl rfl ?_
          refine AO.nil ?_
          refine AC.back ⟨k + 1, ?_, ?_, ⟨?_, ?_, ?_, trivial⟩, ⟨?_, trivial⟩, ⟨rfl, rfl, rfl, trivial⟩, ⟨rfl, rfl, trivial⟩⟩
          · exact hk
          · omega
          · rfl
          · rw [hst]; rfl
          · rfl
          · rw [hst]; first | rfl | (simp only [List.map_append, List.map_cons, List.map_nil]; rfl)
        · -- c38 False
          have hst : setTo xs e (k + 1) = midSet xs e k x := by rw [setTo_succ hr hx, if_neg (by simpa using c38)]
          rw [hmid] at hst
          refine AC.skip ?_
          refine AC.mark ?_
          refine AC.region ?_
          refine AO.yld _ (Yld.move rfl) rfl rfl rfl ?_
          refine AO.yld _ (Yld.add rfl rfl (by omega) (by omega)) rfl rfl rfl ?_
          refine AO.yld _ (Yld.assign rfl) rfl rfl rfl ?_
          refine AO.nil ?_
          refine AC.back ⟨k + 1, ?_, ?_, ⟨?_, ?_, ?_, trivial⟩, ⟨?_, trivial⟩, ⟨rfl, rfl, rfl, trivial⟩, ⟨rfl, rfl, trivial⟩⟩
          · exact hk
          · omega
          · rfl
          · rw [hst]; rfl
          · rfl
          · rw [hst]; first | rfl | (simp only [List.map_append, List.map_cons, List.map_nil]; rfl)
    · -- c12 False
      obtain rfl : k = xs.length := by have := ge_of_decM c12; omega
      refine AC.exit rfl ?_
      refine AC.seq ?_
      refine AC.seq ?_
      refine AC.region ?_
      refine AO.yld _ (Yld.move rfl) rfl rfl rfl ?_
      refine AO.yld _ (Yld.not rfl) rfl rfl rfl ?_
      refine AO.nil ?_
      refine AC.cond _ rfl (fun c47 => ?_) (fun c47 => ?_)
      · -- c47 True
        have hend : setL xs e = (setTo xs e xs.length).1 ++ [e] := by rw [setTo_end, if_neg (by simpa using c47)]
        refine AC.region ?_
        refine AO.yld _ (Yld.move rfl) rfl rfl rfl ?_
        refine AO.yld _ (Yld.loadAgg Tryd.isAgg57 Tryd.sizeOf57 rfl rfl rfl rfl) rfl rfl rfl ?_
        refine AO.buildSlice (rows := [[_, _]]) 2 Tryd.underlying26 ty57 rfl rfl rfl rfl rfl rfl rfl rfl rfl ?_
        refine AO.append 1 Tryd.underlying26 ty57 rfl rfl rfl rfl rfl rfl rfl (by intro r hr q hq; simp only [List.mem_cons, List.not_mem_nil, or_false] at hr; subst hr; simp only [encNV, List.mem_cons, List.not_mem_nil, or_false] at hq; rcases hq with rfl | rfl <;> rfl) (by have := setTo_len (xs := xs) (e := e) (k := xs.length); simp only [List.length_map, List.length_append, List.length_cons, List.length_nil]; omega) (by have := setTo_len (xs := xs) (e := e) (k := xs.length); simp only [List.length_map, List.length_append, List.length_cons, List.length_nil]; omega) rfl ?_
        refine AO.yld _ (Yld.assign rfl) rfl rfl rfl ?_
        refine AO.nil ?_
        refine AC.seq ?_
        refine AC.region ?_
        refine AO.yld _ (Yld.move rfl) rfl rfl rfl ?_
        refine AO.yld _ (Yld.assign rfl) rfl rfl rfl ?_
        refine AO.nil ?_
        refine FnE.ret () [1] [0] Tryd.results51 (RVs.cons (RV.tmp rfl) RVs.nil) rfl rfl rfl ?_ ?_ ⟨⟨_, rfl, ?_⟩, trivial⟩
        · -- holds
          trivial
        · -- value
          rfl
        · -- thing 0
          rw [hend]; first | rfl | (simp only [List.map_append, List.map_cons, List.map_nil]; rfl)
      · -- c47 False
        have hend : setL xs e = (setTo xs e xs.length).1 := by rw [setTo_end, if_pos (by simpa using c47)]
        refine AC.skip ?_
        refine AC.seq ?_
        refine AC.region ?_
        refine AO.yld _ (Yld.move rfl) rfl rfl rfl ?_
        refine AO.yld _ (Yld.assign rfl) rfl rfl rfl ?_
        refine AO.nil ?_
        refine FnE.ret () [1] [0] Tryd.results51 (RVs.cons (RV.tmp rfl) RVs.nil) rfl rfl rfl ?_ ?_ ⟨⟨_, rfl, ?_⟩, trivial⟩
        · -- holds
          trivial
        · -- value
          rfl
        · -- thing 0
          rw [hend]; first | rfl | (simp only [List.map_append, List.map_cons, List.map_nil]; rfl)

end Go.Proofs.YtmnmaakaneaiaaaDoor
/- Versions that are merged. -/
namespace Go.V
open Go
theorem line_mem {xs : List Ver} (hok : okVers xs = true) : ∀ (m : Nat) {n : Int}, n.toNat ≤ m → ∀ {i : Int}, i ∈ line xs n → 1 ≤ i ∧ i ≤ n := by
  intro m
  induction m with
  | zero => intro n h i hi; rw [line_zero (by omega)] at hi; cases hi
  | succ m ih =>
    intro n h i hi
    by_cases hn : 0 < n
    · rw [line_pos hok hn] at hi
      have hp := par_lim hok hn
      rcases List.mem_cons.1 hi with e | e
      · omega
      · have := ih (n := par xs n) (by omega) e; omega
    · rw [line_zero hn] at hi; cases hi
theorem line_in {xs : List Ver} (hok : okVers xs = true) {n i : Int} (h : i ∈ line xs n) : 1 ≤ i ∧ i ≤ n := line_mem hok _ (Nat.le_refl _) h
theorem line_falls {xs : List Ver} (hok : okVers xs = true) : ∀ (m : Nat) {n : Int}, n.toNat ≤ m → (line xs n).Pairwise (fun i j => j < i) := by
  intro m
  induction m with
  | zero => intro n h; rw [line_zero (by omega)]; exact .nil
  | succ m ih =>
    intro n h
    by_cases hn : 0 < n
    · rw [line_pos hok hn]
      have hp := par_lim hok hn
      exact .cons (fun i hi => by have := line_in hok hi; omega) (ih (n := par xs n) (by omega))
    · rw [line_zero hn]; exact .nil
theorem find_max {p : Int → Bool} : ∀ {l : List Int}, l.Pairwise (fun i j => j < i) → ∀ {m : Int}, m ∈ l → p m = true → ∃ x, l.find? p = some x ∧ m ≤ x
  | [], _, _, h, _ => by cases h
  | y :: l, hl, m, h, hp => by
    rw [List.pairwise_cons] at hl
    by_cases hy : p y = true
    · refine ⟨y, by simp [hy], ?_⟩
      rcases List.mem_cons.1 h with e | e
      · omega
      · have := hl.1 m e; omega
    · rcases List.mem_cons.1 h with e | e
      · subst e; exact absurd hp hy
      · obtain ⟨x, h1, h2⟩ := find_max hl.2 e hp
        exact ⟨x, by simp [hy, h1], h2⟩
theorem common_cases {xs : List Ver} (a b : Int) : commonA xs a b = 0 ∨ (commonA xs a b ∈ line xs a ∧ commonA xs a b ∈ line xs b) := by
  unfold commonA
  cases h : (line xs a).find? fun n => decide (n ∈ line xs b) with
  | none => exact .inl rfl
  | some x =>
    have h1 := List.mem_of_find?_eq_some h
    have h2 := List.find?_some h
    exact .inr ⟨h1, by simpa using h2⟩
theorem common_max {xs : List Ver} (hok : okVers xs = true) {a b m : Int} (h1 : m ∈ line xs a) (h2 : m ∈ line xs b) : m ≤ commonA xs a b := by
  obtain ⟨x, h3, h4⟩ := find_max (p := fun n => decide (n ∈ line xs b)) (line_falls hok _ (Nat.le_refl _)) h1 (by simpa using h2)
  unfold commonA; rw [h3]; exact h4
theorem common_lim {xs : List Ver} (hok : okVers xs = true) {a b : Int} (ha : 1 ≤ a) (hb : 1 ≤ b) : 0 ≤ commonA xs a b ∧ commonA xs a b ≤ a ∧ commonA xs a b ≤ b := by
  rcases common_cases (xs := xs) a b with h | ⟨h1, h2⟩
  · omega
  · have := line_in hok h1; have := line_in hok h2; omega
theorem common_symm {xs : List Ver} (hok : okVers xs = true) {a b : Int} (ha : 1 ≤ a) (hb : 1 ≤ b) : commonA xs a b = commonA xs b a := by
  have l1 := common_lim hok ha hb
  have l2 := common_lim hok hb ha
  rcases common_cases (xs := xs) a b with h | ⟨h1, h2⟩ <;> rcases common_cases (xs := xs) b a with h3 | ⟨h3, h4⟩
  · omega
  · have := common_max hok h4 h3; omega
  · have := common_max hok h2 h1; omega
  · have e1 := common_max hok h4 h3; have e2 := common_max hok h2 h1; omega
def stT (xs : List Ver) (n : Int) : List NV := if n = 0 then [] else match xs[(n - 1).toNat]? with
  | some x => x.state
  | none => []
theorem stT_zero {xs : List Ver} {n : Int} (h : n = 0) : stT xs n = [] := if_pos h
theorem stT_get {xs : List Ver} {n : Int} {x : Ver} (h : ¬ n = 0) (hx : xs[(n - 1).toNat]? = some x) : stT xs n = x.state := by unfold stT; rw [if_neg h, hx]
theorem okState_nil : okState [] = true := by decide
theorem stT_ok {xs : List Ver} (h : okVers xs = true) (n : Int) : okState (stT xs n) = true := by
  unfold stT
  split
  · exact okState_nil
  · split
    · next x hx => exact (ver_lim (ver_at h hx)).2.2.2.2
    · exact okState_nil
theorem stT_names {xs : List Ver} (h : okVers xs = true) (n : Int) : ∀ s ∈ stT xs n, s.name.length ≤ 1048576 := fun s hs => isName_len (set_lim (stT_ok h n) hs).1
def merge2V (xs : List Ver) (a b : Int) : List NV × Int := merge2 (stT xs (commonA xs a b)) (stT xs a) (stT xs b)
def mergeVersions (xs : List Ver) (a b : Int) (memo : List UInt8) : List Ver × Int :=
  if okVers xs && okMemo memo then (if inVers xs a && inVers xs b then (if (merge2V xs a b).2 ≠ 0 then ([], (merge2V xs a b).2) else addV xs a memo (merge2V xs a b).1) else ([], 3)) else ([], 1)
theorem merge2_len (base a b : List NV) : (merge2 base a b).1.length ≤ 24 := by
  unfold merge2
  split
  · simp
  · split
    · simp
    · simp only; omega
theorem merge2_names {base a b : List NV} (hb : ∀ s ∈ base, s.name.length ≤ 1048576) (ha : ∀ s ∈ a, s.name.length ≤ 1048576) (hb2 : ∀ s ∈ b, s.name.length ≤ 1048576) : ∀ s ∈ (merge2 base a b).1, s.name.length ≤ 1048576 := by
  have key : ∀ s ∈ mergeL base a b, s.name.length ≤ 1048576 := fun s hs => by
    unfold mergeL at hs
    obtain ⟨n, hn, rfl⟩ := List.mem_map.1 hs
    have h1 := (List.mem_filter.1 hn).1
    rw [names3_mem] at h1
    simp only [namesOf, List.mem_map] at h1
    rcases h1 with ⟨x, hx, e⟩ | ⟨x, hx, e⟩ | ⟨x, hx, e⟩
    · simpa [← e] using hb x hx
    · simpa [← e] using ha x hx
    · simpa [← e] using hb2 x hx
  unfold merge2
  split
  · simp
  · split
    · simp
    · exact key
theorem mergeV_good {xs : List Ver} {a b : Int} {memo : List UInt8} (hg : VersGood xs) (hm : memo.length ≤ 1048576) : VersGood (mergeVersions xs a b memo).1 := by
  have nil : VersGood [] := ⟨by simp, by simp⟩
  unfold mergeVersions
  split
  · next h =>
    simp only [Bool.and_eq_true] at h
    have hl := vers_len h.1
    split
    · split
      · exact nil
      · exact add_good hg (by omega) hm (by have := merge2_len (stT xs (commonA xs a b)) (stT xs a) (stT xs b); unfold merge2V; omega) (merge2_names (stT_names h.1 _) (stT_names h.1 _) (stT_names h.1 _))
    · exact nil
  · exact nil
end Go.V
/- Contracts of functions of the program, each by a walk of its text in the calculus V. -/
set_option linter.all false
set_option linter.unusedSimpArgs false
set_option linter.unnecessarySimpa false
set_option linter.unusedVariables false
namespace Go.Proofs.YtmnmaakaneaiaaaDoor
open Go Go.V

theorem impl_stateOf_c {xs : List Ver} {n : Int} (hg : VersGood xs) (h0 : 0 ≤ n) (h1 : n ≤ xs.length) :
    FnE (α := Unit) Tryd.prog 41 [.p (.sl 4 (xs.map encVer)), .p (.v (.int .i64 n))] [] [] (fun _ => True) (fun _ => .p (.sl 2 ((stT xs n).map encNV))) (fun _ => []) := by
  have hn := hg.1
  refine FnE.intro Tryd.func41 rfl Tryd.ntmps41 rfl rfl (fun w0 F0 η φ w => ?_)
  refine AC.seq ?_
  refine AC.region ?_
  refine AO.yld _ (Yld.assign rfl) rfl rfl rfl ?_
  refine AO.nil ?_
  refine AC.seq ?_
  refine AC.seq ?_
  refine AC.region ?_
  refine AO.yld _ (Yld.move rfl) rfl rfl rfl ?_
  refine AO.yld _ (Yld.int rfl rfl rfl) rfl rfl rfl ?_
  refine AO.nil ?_
  refine AC.cond _ rfl (fun c6 => ?_) (fun c6 => ?_)
  · -- c6 True
    have hz : n = 0 := by simpa using c6
    refine AC.seq ?_
    refine AC.region ?_
    refine AO.yld _ (Yld.assign rfl) rfl rfl rfl ?_
    refine AO.nil ?_
    refine AC.nilVec 4 0 57 2 rfl rfl ?_
    refine AC.freeze 0 rfl ?_
    refine FnE.ret () [] [] Tryd.results41 (RVs.cons (RV.tmp rfl) RVs.nil) rfl rfl rfl ?_ ?_ trivial
    · -- holds
      trivial
    · -- value
      first | (rw [stT_zero hz]; rfl) | (rw [stT_get hz hx]; rfl) | (rw [stT_zero hz]; done) | (rw [stT_get hz hx]; done)
  · -- c6 False
    have hz : ¬ n = 0 := by simpa using c6
    obtain ⟨x, hx⟩ := get_some (xs := xs) (k := (n - 1).toNat) (by omega)
    have hrow := map_row (enc := encVer) hx
    refine AC.skip ?_
    refine AC.seq ?_
    refine AC.region ?_
    refine AO.yld _ (Yld.move rfl) rfl rfl rfl ?_
    refine AO.yld _ (Yld.move rfl) rfl rfl rfl ?_
    refine AO.yld _ (Yld.sub rfl rfl (by omega) (by omega)) rfl rfl rfl ?_
    refine AO.yld _ (Yld.indexSl Tryd.underlying24 Tryd.sizeOf48 rfl rfl hrow (by omega)) rfl rfl rfl ?_
    refine AO.yld _ (Yld.fieldAddr Tryd.underlying48 rfl rfl Tryd.sizeOf26 rfl rfl rfl) rfl rfl rfl ?_
    refine AO.yld _ (Yld.load Tryd.isAgg26 rfl rfl) rfl rfl rfl ?_
    refine AO.yld _ (Yld.assign rfl) rfl rfl rfl ?_
    refine AO.nil ?_
    refine FnE.ret () [] [] Tryd.results41 (RVs.cons (RV.tmp rfl) RVs.nil) rfl rfl rfl ?_ ?_ trivial
    · -- holds
      trivial
    · -- value
      first | (rw [stT_zero hz]; rfl) | (rw [stT_get hz hx]; rfl) | (rw [stT_zero hz]; done) | (rw [stT_get hz hx]; done)

end Go.Proofs.YtmnmaakaneaiaaaDoor
/- Files that are drawn, needs that are made of them, and how plans, latest loads and the least bandwidth stand to one another. -/
namespace Go.V
open Go

theorem okB_of {α : Type} {one : α → Bool} {ge : α → α → Bool} {xs : List α} (h1 : ∀ (k : Nat) x, xs[k]? = some x → one x = true) (h2 : ∀ (k : Nat) x y, xs[k + 1]? = some x → xs[k]? = some y → ge y x = false) : okB one ge xs = true := by
  unfold okB
  suffices h : ∀ k, okTo one ge xs k = true from h _
  intro k
  induction k with
  | zero => rfl
  | succ k ih =>
    simp only [okTo, ih, Bool.true_and]
    cases hx : xs[k]? with
    | none => rfl
    | some x =>
      simp only [h1 k x hx, Bool.true_and]
      cases k with
      | zero => rfl
      | succ j =>
        simp only
        cases hy : xs[j]? with
        | none => rfl
        | some y => simp [h2 j x y hx hy]
theorem allI_of {α : Type} {p : Nat → α → Bool} {xs : List α} (h : ∀ (k : Nat) x, xs[k]? = some x → p k x = true) : allI p xs = true := by
  unfold allI
  suffices h' : ∀ k, allITo p xs k = true from h' _
  intro k
  induction k with
  | zero => rfl
  | succ k ih =>
    simp only [allITo, ih, Bool.true_and]
    cases hx : xs[k]? with
    | none => rfl
    | some x => exact h k x hx

/-- Files as they are drawn. -/
def DrawnM (ms : List NV) : Prop := ms.length ≤ 6 ∧ ∀ (k : Nat) x, ms[k]? = some x → x.name = [UInt8.ofNat (97 + k)] ∧ 1 ≤ x.val ∧ x.val ≤ 50
theorem lett_inj {i j : Nat} (hi : i < 6) (hj : j < 6) (h : [UInt8.ofNat (97 + i)] = [UInt8.ofNat (97 + j)]) : i = j := by
  have := congrArg (fun l : List UInt8 => l.map UInt8.toNat) h
  simp only [List.map_cons, List.map_nil, UInt8.toNat_ofNat', List.cons.injEq, and_true] at this
  omega
theorem lett_name {i : Nat} (hi : i < 6) : isName [UInt8.ofNat (97 + i)] = true := by
  have : i = 0 ∨ i = 1 ∨ i = 2 ∨ i = 3 ∨ i = 4 ∨ i = 5 := by omega
  rcases this with rfl | rfl | rfl | rfl | rfl | rfl <;> decide
theorem lett_less {i : Nat} (hi : i + 1 < 6) : Op.bytesLess [UInt8.ofNat (97 + i)] [UInt8.ofNat (97 + (i + 1))] = true := by
  have : i = 0 ∨ i = 1 ∨ i = 2 ∨ i = 3 ∨ i = 4 := by omega
  rcases this with rfl | rfl | rfl | rfl | rfl <;> decide
theorem drawn_ok {ms : List NV} (h : DrawnM ms) : okMedias ms = true := by
  unfold okMedias
  rw [Bool.and_eq_true]
  refine ⟨okB_of (fun k x hx => ?_) (fun k x y hx hy => ?_), by have := h.1; simp; omega⟩
  · obtain ⟨h1, h2, h3⟩ := h.2 k x hx
    have hk := lt_of_get hx
    have := h.1
    unfold okMedia
    rw [h1, lett_name (by omega)]
    simp; omega
  · obtain ⟨h1, _⟩ := h.2 _ x hx
    obtain ⟨h2, _⟩ := h.2 _ y hy
    have hk := lt_of_get hx
    have := h.1
    unfold geNV
    rw [h1, h2, lett_less (by omega)]; rfl
/-- Needs of all of them, in their order. -/
def NeedsOf (ms xs : List NV) (T : Int) : Prop := xs.length ≤ ms.length ∧ 100 ≤ T ∧ T ≤ 100 + 3900 * (xs.length : Int) ∧
  ∀ (j : Nat) x, xs[j]? = some x → (∃ m, ms[j]? = some m ∧ x.name = m.name) ∧ 100 ≤ x.val ∧ x.val ≤ T ∧ ∀ y, 0 < j → xs[j - 1]? = some y → y.val ≤ x.val
theorem needs_nil (ms : List NV) : NeedsOf ms [] 100 := ⟨by simp, by omega, by simp, fun j x h => by simp at h⟩
theorem needs_add {ms xs : List NV} {T d : Int} {m : NV} (h : NeedsOf ms xs T) (hm : ms[xs.length]? = some m) (h0 : 0 ≤ d) (h1 : d ≤ 39) : NeedsOf ms (xs ++ [⟨m.name, T + 100 * d⟩]) (T + 100 * d) := by
  obtain ⟨h2, h3, h4, h5⟩ := h
  have hk := lt_of_get hm
  refine ⟨by simp; omega, by omega, by simp; omega, fun j x hx => ?_⟩
  rcases Nat.lt_trichotomy j xs.length with h6 | h6 | h6
  · rw [List.getElem?_append_left h6] at hx
    obtain ⟨h7, h8, h9, h10⟩ := h5 j x hx
    refine ⟨h7, h8, by omega, fun y hy1 hy2 => ?_⟩
    rw [List.getElem?_append_left (by omega)] at hy2
    exact h10 y hy1 hy2
  · subst h6
    simp at hx; subst hx
    refine ⟨⟨m, hm, rfl⟩, by simp; omega, by simp, fun y hy1 hy2 => ?_⟩
    rw [List.getElem?_append_left (by omega)] at hy2
    have := (h5 _ y hy2).2.2.1
    simp; omega
  · rw [List.getElem?_append_right (by omega)] at hx
    have : 0 < j - xs.length := by omega
    rw [List.getElem?_eq_none (by simp; omega)] at hx; cases hx
theorem needs_fit {ms xs : List NV} {T : Int} (h : DrawnM ms) (hn : NeedsOf ms xs T) : okNeeds ms xs = true := by
  obtain ⟨h2, h3, h4, h5⟩ := hn
  have hl := h.1
  unfold okNeeds
  rw [drawn_ok h, Bool.true_and, Bool.and_eq_true]
  refine ⟨allI_of (fun k x hx => ?_), by simp; omega⟩
  obtain ⟨⟨m, hm, he⟩, h6, h7, h8⟩ := h5 k x hx
  obtain ⟨hm1, hm2, hm3⟩ := h.2 k m hm
  have hk := lt_of_get hx
  have hlk : lookup ms x.name ≠ 0 := by
    unfold lookup
    cases hf : ms.find? (fun y => decide (y.name = x.name)) with
    | none =>
      rw [List.find?_eq_none] at hf
      have := hf m (List.mem_of_getElem? hm)
      simp [he] at this
    | some y =>
      obtain ⟨i, hi⟩ := List.getElem?_of_mem (List.mem_of_find?_eq_some hf)
      have := h.2 i y hi
      simp; omega
  have ha : (xs.take k).any (nameIs x.name) = false := by
    rw [List.any_eq_false]
    intro y hy
    obtain ⟨i, hi⟩ := List.getElem?_of_mem hy
    have hik : i < k := by have := lt_of_get hi; simp at this; omega
    rw [List.getElem?_take_of_lt hik] at hi
    obtain ⟨⟨m2, hm4, he2⟩, _⟩ := h5 i y hi
    obtain ⟨hm5, _⟩ := h.2 i m2 hm4
    simp only [nameIs, decide_eq_true_eq]
    intro e
    rw [he2, hm5, he, hm1] at e
    have := lett_inj (by omega) (by omega) e
    omega
  unfold okNeed
  rw [ha]
  simp only [Bool.and_true, Bool.not_false, Bool.and_eq_true, Bool.not_eq_true', decide_eq_false_iff_not, decide_eq_true_eq]
  refine ⟨⟨hlk, by omega, by omega⟩, ?_⟩
  cases hy : xs[k - 1]? with
  | none => rfl
  | some y =>
    simp only [Bool.not_eq_true', Bool.and_eq_false_iff, decide_eq_false_iff_not]
    by_cases h0 : 0 < k
    · right; have := h8 y h0 hy; omega
    · left; exact h0

/-! How they stand to one another. -/
section
variable {ms xs : List NV} {b : Int}
theorem late_iff (k : Nat) (hk : k ≤ xs.length) : lateTo ms xs b k ≤ 0 ↔ ∀ (i : Nat) x, i < k → xs[i]? = some x → sumTo (loadT ms b) xs (i + 1) ≤ x.val := by
  induction k with
  | zero => simp [lateTo]
  | succ k ih =>
    obtain ⟨x, hx⟩ := get_some (xs := xs) (k := k) (by omega)
    rw [lateTo_succ hx]
    have ih' := ih (by omega)
    constructor
    · intro h i y hi hy
      rcases Nat.lt_or_ge i k with h1 | h1
      · exact ih'.1 (by omega) i y h1 hy
      · obtain rfl : i = k := by omega
        rw [hx] at hy; obtain rfl := Option.some.inj hy
        omega
    · intro h
      have h1 := ih'.2 (fun i y hi hy => h i y (by omega) hy)
      have h2 := h k x (by omega) hx
      omega
theorem end_iff (hok : okNeeds ms xs = true) (hb : 1 ≤ b) (j : Nat) (hj : j ≤ xs.length) : sumTo (loadT ms b) xs (xs.length - j) ≤ endF ms xs b j ↔ sumTo (loadT ms b) xs xs.length ≤ 7200000 ∧ ∀ (i : Nat) x, xs.length - j ≤ i → xs[i]? = some x → sumTo (loadT ms b) xs (i + 1) ≤ x.val := by
  induction j with
  | zero =>
    simp only [Nat.sub_zero, endF]
    constructor
    · intro h
      refine ⟨h, fun i x hi hx => ?_⟩
      have := lt_of_get hx; omega
    · intro h; exact h.1
  | succ j ih =>
    obtain ⟨x, hx⟩ := get_some (xs := xs) (k := xs.length - 1 - j) (by omega)
    have ih' := ih (by omega)
    rw [endF_succ hx]
    have e1 : xs.length - (j + 1) = xs.length - 1 - j := by omega
    have e2 : xs.length - j = xs.length - 1 - j + 1 := by omega
    have hs := sumTo_succ (f := loadT ms b) hx
    rw [e1]
    rw [e2] at ih'
    constructor
    · intro h
      have h1 := ih'.1 (by omega)
      refine ⟨h1.1, fun i y hi hy => ?_⟩
      rcases Nat.lt_or_ge (xs.length - 1 - j) i with h2 | h2
      · exact h1.2 i y (by omega) hy
      · obtain rfl : i = xs.length - 1 - j := by omega
        rw [hx] at hy; obtain rfl := Option.some.inj hy
        omega
    · intro h
      have h1 := ih'.2 ⟨h.1, fun i y hi hy => h.2 i y (by omega) hy⟩
      have h2 := h.2 _ x (Nat.le_refl _) hx
      omega
theorem last_need (hok : okNeeds ms xs = true) (hl : xs.length ≠ 0) (h : ∀ (i : Nat) x, xs[i]? = some x → sumTo (loadT ms b) xs (i + 1) ≤ x.val) : sumTo (loadT ms b) xs xs.length ≤ 7200000 := by
  obtain ⟨x, hx⟩ := get_some (xs := xs) (k := xs.length - 1) (by omega)
  have h1 := h _ x hx
  rw [show xs.length - 1 + 1 = xs.length by omega] at h1
  have := need_lim (allI_at (needs_ok hok).2.1 hx)
  omega
theorem sums_pos (hok : okNeeds ms xs = true) (hb : 1 ≤ b) (k : Nat) : 0 ≤ sumTo (loadT ms b) xs k := by
  have := (sums_lim (xs := xs) (needs_ok hok).1 hb k).1; omega
/-- If all is in time, each latest load is not ahead of the plan's. -/
theorem end_ge (hok : okNeeds ms xs = true) (hb : 1 ≤ b) (hl : xs.length ≠ 0) (h : inTime ms xs b = true) (j : Nat) (hj : j ≤ xs.length) : sumTo (loadT ms b) xs (xs.length - j) ≤ endF ms xs b j := by
  simp only [inTime, decide_eq_true_eq] at h
  have h1 := (late_iff (ms := ms) (b := b) xs.length (Nat.le_refl _)).1 h
  have h2 : ∀ (i : Nat) x, xs[i]? = some x → sumTo (loadT ms b) xs (i + 1) ≤ x.val := fun i x hx => h1 i x (lt_of_get hx) hx
  exact (end_iff hok hb j hj).2 ⟨last_need hok hl h2, fun i x _ hx => h2 i x hx⟩
theorem end_ok (hok : okNeeds ms xs = true) (hb : 1 ≤ b) (hl : xs.length ≠ 0) : endOk ms xs b xs.length = inTime ms xs b := by
  cases hi : inTime ms xs b with
  | true =>
    have : ∀ j, j ≤ xs.length → endOk ms xs b j = true := by
      intro j
      induction j with
      | zero => intro _; rfl
      | succ j ih =>
        intro hj
        have h1 := end_ge hok hb hl hi (j + 1) hj
        have h2 := sums_pos (xs := xs) hok hb (xs.length - (j + 1))
        simp only [endOk, ih (by omega), Bool.true_and, decide_eq_true_eq]
        omega
    exact this _ (Nat.le_refl _)
  | false =>
    cases he : endOk ms xs b xs.length with
    | false => rfl
    | true =>
      obtain ⟨n, hn⟩ : ∃ n, xs.length = n + 1 := ⟨xs.length - 1, by omega⟩
      have h1 : 0 ≤ endF ms xs b xs.length := by
        rw [hn] at he ⊢
        simp only [endOk, Bool.and_eq_true, decide_eq_true_eq] at he; exact he.2
      have h2 := (end_iff hok hb xs.length (Nat.le_refl _)).1 (by rw [Nat.sub_self]; exact h1)
      have h3 := (late_iff (ms := ms) (b := b) xs.length (Nat.le_refl _)).2 (fun i x _ hx => h2.2 i x (by omega) hx)
      simp only [inTime, decide_eq_false_iff_not] at hi
      exact absurd h3 hi
theorem endV_get (j i : Nat) (h : i < j) : (endV ms xs b j)[i]? = some (endF ms xs b (j - i)) := by
  induction j generalizing i with
  | zero => omega
  | succ j ih =>
    cases i with
    | zero => simp [endV]
    | succ i =>
      simp only [endV, List.getElem?_cons_succ]
      rw [ih i (by omega)]
      congr 2; omega
theorem plan_step (hok : okNeeds ms xs = true) (hb : 1 ≤ b) {k : Nat} (hk : k < xs.length) : sumTo (loadT ms b) xs k ≤ sumTo (loadT ms b) xs (k + 1) := by
  obtain ⟨x, hx⟩ := get_some hk
  rw [sumTo_succ hx]
  have := loadT_lim (needs_ok hok).1 hb x
  omega
theorem least_up (hok : okNeeds ms xs = true) {w : Int} (hw : 1 ≤ w) (hd : (leastBandwidth ms xs).2 = 0) : (decide (lateTo ms xs w xs.length ≤ 0) = decide (w ≥ (leastBandwidth ms xs).1)) ∧ 1 ≤ (leastBandwidth ms xs).1 ∧ (leastBandwidth ms xs).1 ≤ 100000 ∧ lateTo ms xs (leastBandwidth ms xs).1 xs.length ≤ 0 ∧ ((leastBandwidth ms xs).1 ≠ 1 → 0 < lateTo ms xs ((leastBandwidth ms xs).1 - 1) xs.length) := by
  unfold leastBandwidth at hd ⊢
  rw [if_pos hok] at hd ⊢
  split at hd
  · next h =>
    simp only [if_pos h]
    have hr := halve_range (p := inTime ms xs) (lo := 1) (hi := 100000) (by omega)
    have hh := halve_hit (p := inTime ms xs) (lo := 1) (hi := 100000) (by omega) h
    have hm := halve_min (p := inTime ms xs) (inTime_up (needs_ok hok).1) (lo := 1) (hi := 100000) (by omega) (by omega)
    refine ⟨?_, hr.1, hr.2, by simpa [inTime] using hh, fun h1 => ?_⟩
    · by_cases hw2 : halve (inTime ms xs) 1 100000 ≤ w
      · have := inTime_up (xs := xs) (needs_ok hok).1 _ w hr.1 hw2 hh
        simp only [inTime] at this
        rw [this]; simp; omega
      · have := hm w hw (by omega)
        simp only [inTime] at this
        rw [this]; simp; omega
    · have := hm (halve (inTime ms xs) 1 100000 - 1) (by omega) (by omega)
      simp only [inTime, decide_eq_false_iff_not] at this; omega
  · simp at hd
theorem least_code (hok : okNeeds ms xs = true) : (leastBandwidth ms xs).2 = 0 ∨ (leastBandwidth ms xs).2 = 3 := by
  unfold leastBandwidth; rw [if_pos hok]; split <;> simp
end
theorem byte_u8 (c : UInt8) : 0 ≤ IntKind.i64.wrap (c.toNat : Int) ∧ IntKind.i64.wrap (c.toNat : Int) ≤ 255 := by
  have := c.toNat_lt
  rw [wrap_id (by omega) (by omega)]; omega
theorem pick_lim {a n p q : Int} (h : 0 ≤ a ∧ a ≤ 255) (hn : 1 < n) (hq : p ≤ q ∧ q ≤ p + 2) : 0 ≤ a.tmod n ∧ a.tmod n < n ∧ p ≤ q ∧ q ≤ p + 2 := by
  rw [Int.tmod_eq_emod_of_nonneg h.1]
  exact ⟨Int.emod_nonneg _ (by omega), Int.emod_lt_of_pos _ (by omega), hq⟩
theorem pick_lim2 {a b n p q : Int} (h : 0 ≤ a ∧ a ≤ 255) (hb : 0 ≤ b ∧ b ≤ 255) (hn : 1 < n) (hq : p ≤ q ∧ q ≤ p + 2) : 0 ≤ (a * 256 + b).tmod n ∧ (a * 256 + b).tmod n < n ∧ p ≤ q ∧ q ≤ p + 2 := by
  rw [Int.tmod_eq_emod_of_nonneg (by omega)]
  exact ⟨Int.emod_nonneg _ (by omega), Int.emod_lt_of_pos _ (by omega), hq⟩
theorem drawn_nil : DrawnM [] := ⟨by simp, fun k x h => by simp at h⟩
theorem drawn_add {ms : List NV} {k : Nat} {v : Int} (h : DrawnM ms) (hk : ms.length = k) (h6 : k < 6) (h0 : 0 ≤ v) (h1 : v < 50) : DrawnM (ms ++ [⟨[UInt8.ofNat (97 + k)], 1 + v⟩]) := by
  refine ⟨by simp; omega, fun j x hx => ?_⟩
  rcases Nat.lt_trichotomy j ms.length with h2 | h2 | h2
  · rw [List.getElem?_append_left h2] at hx; exact h.2 j x hx
  · subst h2
    simp at hx; subst hx
    refine ⟨by simp [hk], by simp; omega, by simp; omega⟩
  · rw [List.getElem?_append_right (by omega), List.getElem?_eq_none (by simp; omega)] at hx; cases hx
theorem lett_row {k : Nat} (hk : k < 6) : ([[PV.v (.string ⟨#[97]⟩)], [PV.v (.string ⟨#[98]⟩)], [PV.v (.string ⟨#[99]⟩)], [PV.v (.string ⟨#[100]⟩)], [PV.v (.string ⟨#[101]⟩)], [PV.v (.string ⟨#[102]⟩)]] : List (List PV))[k]? = some [.v (str [UInt8.ofNat (97 + k)])] := by
  have : k = 0 ∨ k = 1 ∨ k = 2 ∨ k = 3 ∨ k = 4 ∨ k = 5 := by omega
  rcases this with rfl | rfl | rfl | rfl | rfl | rfl <;> rfl
/-- A number below n that an input chooses. -/
def r8At (l : List UInt8) (k n : Int) : Int := if n ≤ 1 ∨ (l.length : Int) ≤ k then 0 else match l[k.toNat]? with | some c => (c.toNat : Int) % n | none => 0
theorem r8At_lim {l : List UInt8} {k n : Int} (hn : 1 ≤ n) : 0 ≤ r8At l k n ∧ r8At l k n < n := by
  unfold r8At
  split
  · omega
  · split
    · exact ⟨Int.emod_nonneg _ (by omega), Int.emod_lt_of_pos _ (by omega)⟩
    · omega
theorem r8At_hit {l : List UInt8} {k n : Int} {c : UInt8} (hn : ¬ n ≤ 1) (hk : k < l.length) (hc : l[k.toNat]? = some c) : (IntKind.i64.wrap (c.toNat : Int)).tmod n = r8At l k n := by
  have := c.toNat_lt
  unfold r8At
  rw [if_neg (by omega), hc, wrap_id (by omega) (by omega), Int.tmod_eq_emod_of_nonneg (by omega)]
theorem r8At_no {l : List UInt8} {k n : Int} (h : n ≤ 1 ∨ (l.length : Int) ≤ k) : 0 = r8At l k n := by
  unfold r8At; rw [if_pos h]
theorem hasB {l : List PV} (h : (Ty.int .u8).Has l) : ∃ x : UInt8, l = encB x ∧ True := by
  obtain ⟨n, rfl, w⟩ := has_int h
  refine ⟨UInt8.ofNat n.toNat, ?_, trivial⟩
  have hw : 0 ≤ n ∧ n ≤ 255 := by
    simp [Lit.wf, IntKind.min, IntKind.max, IntKind.signed, IntKind.bits] at w
    omega
  unfold encB
  rw [UInt8.toNat_ofNat']
  congr 3
  omega
theorem drawn_names {ms : List NV} (h : DrawnM ms) : ∀ x ∈ ms, x.name.length ≤ 1048576 := by
  intro x hx
  obtain ⟨i, hi⟩ := List.getElem?_of_mem hx
  rw [(h.2 i x hi).1]; simp
theorem needs_names {ms xs : List NV} {T : Int} (h : DrawnM ms) (hn : NeedsOf ms xs T) : ∀ x ∈ xs, x.name.length ≤ 1048576 := by
  intro x hx
  obtain ⟨i, hi⟩ := List.getElem?_of_mem hx
  obtain ⟨⟨m, hm, he⟩, _⟩ := hn.2.2.2 i x hi
  rw [he]; exact drawn_names h m (List.mem_of_getElem? hm)
theorem ask_zero {ms xs : List NV} {b : Int} (hok : okNeeds ms xs = true) (h1 : 1 ≤ b) (h2 : b ≤ 100000) : askNeeds ms xs b = 0 := by
  unfold askNeeds; rw [if_pos hok, if_pos (by simp [h1, h2])]
theorem late_zero {ms xs : List NV} {b : Int} (h : askNeeds ms xs b = 0) : latenessOf ms xs b = if xs.length = 0 then (0, 6) else (lateTo ms xs b xs.length, 0) := by
  unfold latenessOf; rw [if_pos h]
theorem latest_all {ms xs : List NV} {b : Int} (hok : okNeeds ms xs = true) (h : askNeeds ms xs b = 0) (hl : xs.length ≠ 0) : latestLoads ms xs b = if inTime ms xs b = true then (endV ms xs b xs.length, 0) else ([], 6) := by
  have hb := ask_needs h
  unfold latestLoads; rw [if_pos h, end_ok hok hb.2.1 hl]
theorem latest_none {ms xs : List NV} {b : Int} (h : askNeeds ms xs b = 0) (hl : xs.length = 0) : latestLoads ms xs b = ([], 0) := by
  unfold latestLoads; rw [if_pos h, if_pos (by rw [hl]; rfl)]
  simp [hl, endV]
theorem plan_all {ms xs : List NV} {b : Int} (h : askNeeds ms xs b = 0) : loadPlan ms xs b = (planL ms xs b xs.length, 0) := by
  unfold loadPlan; rw [if_pos h]
theorem late_same {ms xs : List NV} {b : Int} {l : List Int} : (((if inTime ms xs b = true then (l, (0 : Int)) else ([], 6)).2 == 0) != decide (lateTo ms xs b xs.length ≤ 0)) = false := by
  cases hi : inTime ms xs b with
  | true => have h := hi; unfold inTime at h; rw [if_pos rfl, h]; rfl
  | false => have h := hi; unfold inTime at h; rw [if_neg (by simp), h]; rfl
theorem late_is {ms xs : List NV} {b : Int} {l : List Int} (h : ((if inTime ms xs b = true then (l, (0 : Int)) else ([], 6)).2 == 0) = true) : inTime ms xs b = true := by
  cases hi : inTime ms xs b with
  | true => rfl
  | false => rw [hi] at h; simp at h
end Go.V
/- States that are drawn, changed, merged: the laws of merging. -/
namespace Go.V
open Go
theorem pickR0 {n p : Int} (h : 0 < n) : 0 ≤ (0 : Int) ∧ (0 : Int) < n ∧ p ≤ p ∧ p ≤ p + 2 := ⟨Int.le_refl _, h, Int.le_refl _, by omega⟩
theorem okState_of {xs : List NV} (h1 : ∀ x ∈ xs, okSetting x = true) (h2 : Rises (namesOf xs)) (h3 : xs.length ≤ 24) : okState xs = true := by
  unfold okState
  rw [Bool.and_eq_true, decide_eq_true_eq]
  refine ⟨okB_of (fun k x hx => h1 x (List.mem_of_getElem? hx)) (fun k x y hx hy => ?_), h3⟩
  unfold geNV
  rw [rises_at h2 (Nat.lt_succ_self k) hy hx]; rfl
/-- A state of at most so many settings. -/
structure SG (xs : List NV) (m : Nat) : Prop where
  one : ∀ x ∈ xs, okSetting x = true
  rise : Rises (namesOf xs)
  len : xs.length ≤ m
theorem SG.ok {xs : List NV} {m : Nat} (h : SG xs m) (hm : m ≤ 24) : okState xs = true := okState_of h.one h.rise (Nat.le_trans h.len hm)
theorem SG.of {xs : List NV} (h : okState xs = true) : SG xs xs.length := by
  refine ⟨fun x hx => ?_, state_rises h, Nat.le_refl _⟩
  obtain ⟨k, hk⟩ := List.getElem?_of_mem hx
  exact okB_at (state_ok h) hk
theorem SG.nil (m : Nat) : SG [] m := ⟨(fun _ h => by cases h), (by simp [Rises, namesOf]), Nat.zero_le _⟩
theorem SG.up {xs : List NV} {m n : Nat} (h : SG xs m) (hm : m ≤ n) : SG xs n := ⟨h.one, h.rise, Nat.le_trans h.len hm⟩
theorem SG.del {xs : List NV} {m : Nat} (h : SG xs m) (k : Nat) : SG (xs.take k ++ xs.drop (k + 1)) m := by
  have hs : (xs.take k ++ xs.drop (k + 1)).Sublist xs := by
    conv => rhs; rw [← List.take_append_drop k xs]
    refine List.Sublist.append (List.Sublist.refl _) ?_
    rw [← List.drop_drop]
    exact List.drop_sublist 1 _
  refine ⟨fun x hx => h.one x (hs.subset hx), ?_, Nat.le_trans hs.length_le h.len⟩
  exact List.Pairwise.sublist (hs.map NV.name) h.rise
theorem SG.set {xs : List NV} {m : Nat} (h : SG xs m) {e : NV} (he : okSetting e = true) : SG (setL xs e) (m + 1) := by
  refine ⟨fun x hx => ?_, setL_rises h.rise, Nat.le_trans setL_len (by have := h.len; omega)⟩
  unfold setL at hx
  rcases List.mem_append.1 hx with hx | hx
  · exact h.one x (List.mem_filter.1 hx).1
  · rcases List.mem_cons.1 hx with rfl | hx
    · exact he
    · exact h.one x (List.mem_filter.1 hx).1
theorem SG.names {xs : List NV} {m : Nat} (h : SG xs m) : ∀ s ∈ xs, s.name.length ≤ 1048576 := fun s hs => by
  have := h.one s hs
  simp only [okSetting, Bool.and_eq_true] at this
  exact isName_len this.1
/-- A state that is being drawn: names are the first letters. -/
def DrawnS (xs : List NV) (k : Nat) : Prop := SG xs k ∧ ∀ x ∈ xs, ∃ j : Nat, j < k ∧ x.name = [UInt8.ofNat (97 + j)]
theorem drawnS_nil : DrawnS [] 0 := ⟨SG.nil 0, (fun _ h => by cases h)⟩
theorem drawnS_up {xs : List NV} {k : Nat} (h : DrawnS xs k) : DrawnS xs (k + 1) := ⟨h.1.up (by omega), fun x hx => let ⟨j, h1, h2⟩ := h.2 x hx; ⟨j, by omega, h2⟩⟩
theorem lett_mono : ∀ {i j : Nat}, i < j → j < 6 → Op.bytesLess [UInt8.ofNat (97 + i)] [UInt8.ofNat (97 + j)] = true := by
  intro i j h1 h2
  have : ∀ j, j < 6 → ∀ i, i < j → Op.bytesLess [UInt8.ofNat (97 + i)] [UInt8.ofNat (97 + j)] = true := by decide
  exact this j h2 i h1
theorem drawnS_add {xs : List NV} {k : Nat} {v : Int} (h : DrawnS xs k) (hk : k < 6) (h0 : 0 ≤ v) (h1 : v < 1001) : DrawnS (xs ++ [⟨[UInt8.ofNat (97 + k)], v⟩]) (k + 1) := by
  refine ⟨⟨fun x hx => ?_, ?_, ?_⟩, fun x hx => ?_⟩
  · rcases List.mem_append.1 hx with hx | hx
    · exact h.1.one x hx
    · rw [List.mem_singleton] at hx; subst hx
      simp only [okSetting, Bool.and_eq_true, decide_eq_true_eq]
      exact ⟨lett_name hk, h0, by omega⟩
  · unfold Rises namesOf
    rw [List.map_append, List.pairwise_append]
    refine ⟨h.1.rise, by simp, fun a ha b hb => ?_⟩
    obtain ⟨x, hx, rfl⟩ := List.mem_map.1 ha
    simp only [List.map_cons, List.map_nil, List.mem_singleton] at hb
    subst hb
    obtain ⟨j, hj, e⟩ := h.2 x hx
    rw [e]; exact lett_mono hj hk
  · have := h.1.len
    simp only [List.length_append, List.length_cons, List.length_nil]; omega
  · rcases List.mem_append.1 hx with hx | hx
    · obtain ⟨j, hj, e⟩ := h.2 x hx; exact ⟨j, by omega, e⟩
    · rw [List.mem_singleton] at hx; subst hx; exact ⟨k, by omega, rfl⟩
theorem lett5 {k : Nat} (h : k < 5) : ([[PV.v (.string ⟨#[97]⟩)], [PV.v (.string ⟨#[98]⟩)], [PV.v (.string ⟨#[99]⟩)], [PV.v (.string ⟨#[100]⟩)], [PV.v (.string ⟨#[101]⟩)]] : List (List PV))[k]? = some [.v (str [UInt8.ofNat (97 + k)])] := by
  match k, h with
  | 0, _ => rfl
  | 1, _ => rfl
  | 2, _ => rfl
  | 3, _ => rfl
  | 4, _ => rfl
theorem set_ok {k : Nat} (hk : k < 6) {v : Int} (h0 : 0 ≤ v) (h1 : v < 1001) : okSetting ⟨[UInt8.ofNat (97 + k)], v⟩ = true := by
  simp only [okSetting, Bool.and_eq_true, decide_eq_true_eq]
  exact ⟨lett_name hk, h0, by omega⟩
theorem idx_lim {xs : List NV} {n : List UInt8} (h : 0 ≤ idxOf (nameIs n) xs) : idxOf (nameIs n) xs < xs.length := by
  rcases idx_find xs n with ⟨h1, _⟩ | ⟨k, x, h1, hx, _⟩
  · omega
  · have := lt_of_get hx; omega
/-! Merging. -/
theorem vIn_ge {xs : List NV} (h : okState xs = true) (n : List UInt8) : -1 ≤ vIn xs n ∧ vIn xs n ≤ 1000 := by
  rcases idx_find xs n with ⟨_, h2⟩ | ⟨k, x, _, hx, hn, h2⟩
  · rw [vIn_miss h2]; omega
  · rw [vIn_hit h2]
    have := set_lim h (List.mem_of_getElem? hx); omega
theorem rises_find {xs : List NV} (h : Rises (namesOf xs)) {x : NV} (hx : x ∈ xs) : xs.find? (nameIs x.name) = some x := by
  obtain ⟨k, hk⟩ := List.getElem?_of_mem hx
  obtain ⟨hl, he⟩ := List.getElem?_eq_some_iff.1 hk
  rw [List.find?_eq_some_iff_getElem]
  refine ⟨by simp [nameIs], k, hl, he, fun j hj => ?_⟩
  have hjl : j < xs.length := by omega
  have := rises_at h hj (List.getElem?_eq_getElem hjl) hk
  simp only [nameIs, Bool.not_eq_true', decide_eq_false_iff_not]
  intro e
  rw [e, bytesLess_irrefl] at this; cases this
theorem vIn_mem {xs : List NV} (h : Rises (namesOf xs)) {x : NV} (hx : x ∈ xs) : vIn xs x.name = x.val := vIn_hit (rises_find h hx)
theorem vIn_out {xs : List NV} {n : List UInt8} (h : n ∉ namesOf xs) : vIn xs n = -1 := by
  refine vIn_miss (List.find?_eq_none.2 (fun x hx => ?_))
  simp only [nameIs, decide_eq_true_eq]
  intro e; exact h (List.mem_map.2 ⟨x, hx, e⟩)
theorem mem_of_vIn {xs : List NV} {n : List UInt8} (h : 0 ≤ vIn xs n) : ⟨n, vIn xs n⟩ ∈ xs := by
  rcases idx_find xs n with ⟨_, h2⟩ | ⟨k, x, _, hx, hn, h2⟩
  · rw [vIn_miss h2] at h; omega
  · rw [vIn_hit h2]
    have := List.mem_of_getElem? hx
    cases x; simp only at hn; subst hn; exact this
theorem state_ext {xs ys : List NV} (hx : okState xs = true) (hy : okState ys = true) (h : ∀ n, vIn xs n = vIn ys n) : xs = ys := by
  have key : ∀ {ps qs : List NV}, okState ps = true → okState qs = true → (∀ n, vIn ps n = vIn qs n) → ∀ x ∈ ps, x ∈ qs := by
    intro ps qs ha hb he x hxm
    have h1 := vIn_mem (state_rises ha) hxm
    have h2 := (set_lim ha hxm).2.1
    have h3 := mem_of_vIn (xs := qs) (n := x.name) (by rw [← he, h1]; exact h2)
    rw [← he, h1] at h3; exact h3
  have hm : ∀ n, n ∈ namesOf xs ↔ n ∈ namesOf ys := fun n => by
    simp only [namesOf, List.mem_map]
    exact ⟨fun ⟨x, h1, h2⟩ => ⟨x, key hx hy h x h1, h2⟩, fun ⟨x, h1, h2⟩ => ⟨x, key hy hx (fun n => (h n).symm) x h1, h2⟩⟩
  have hn : namesOf xs = namesOf ys := rises_ext (state_rises hx) (state_rises hy) hm
  have hl : xs.length = ys.length := by have := congrArg List.length hn; simpa [namesOf] using this
  refine List.ext_getElem? fun k => ?_
  by_cases hk : k < xs.length
  · obtain ⟨x, hx1⟩ := get_some hk
    obtain ⟨y, hy1⟩ := get_some (xs := ys) (k := k) (by omega)
    have e1 : (namesOf xs)[k]? = some x.name := by unfold namesOf; rw [List.getElem?_map, hx1]; rfl
    have e2 : (namesOf ys)[k]? = some y.name := by unfold namesOf; rw [List.getElem?_map, hy1]; rfl
    rw [hn, e2] at e1
    have en : y.name = x.name := Option.some.inj e1
    have v1 := vIn_mem (state_rises hx) (List.mem_of_getElem? hx1)
    have v2 := vIn_mem (state_rises hy) (List.mem_of_getElem? hy1)
    rw [en, ← h, v1] at v2
    rw [hx1, hy1]
    cases x; cases y; simp only at en v2; rw [en, v2]
  · rw [List.getElem?_eq_none (by omega), List.getElem?_eq_none (by omega)]
section
variable {base a b : List NV}
theorem mergeL_mem {x : NV} : x ∈ mergeL base a b ↔ x.name ∈ names3 base a b ∧ 0 ≤ mergeV base a b x.name ∧ x.val = mergeV base a b x.name := by
  unfold mergeL
  simp only [List.mem_map, List.mem_filter, decide_eq_true_eq]
  constructor
  · rintro ⟨n, ⟨h1, h2⟩, rfl⟩; exact ⟨h1, h2, rfl⟩
  · rintro ⟨h1, h2, h3⟩; exact ⟨x.name, ⟨h1, h2⟩, by cases x; simp only at h3; rw [h3]⟩
theorem mergeL_good (hb : okState base = true) (ha : okState a = true) (hb2 : okState b = true) : SG (mergeL base a b) (base.length + a.length + b.length) := by
  refine ⟨fun x hx => ?_, ?_, mergeL_len⟩
  · obtain ⟨h1, h2, h3⟩ := mergeL_mem.1 hx
    simp only [okSetting, Bool.and_eq_true, decide_eq_true_eq]
    have hv : mergeV base a b x.name ≤ 1000 := by
      unfold mergeV; split
      · exact (vIn_ge hb2 _).2
      · exact (vIn_ge ha _).2
    refine ⟨?_, by omega, by omega⟩
    rw [names3_mem] at h1
    simp only [namesOf, List.mem_map] at h1
    rcases h1 with ⟨y, hy, e⟩ | ⟨y, hy, e⟩ | ⟨y, hy, e⟩ <;> rw [← e]
    · exact (set_lim hb hy).1
    · exact (set_lim ha hy).1
    · exact (set_lim hb2 hy).1
  · have e : namesOf (mergeL base a b) = (names3 base a b).filter (fun n => decide (0 ≤ mergeV base a b n)) := by
      unfold mergeL namesOf; rw [List.map_map]; simp [Function.comp_def]
    rw [e]
    exact List.Pairwise.filter _ (compact_sort _).1
theorem mergeL_vIn (hb : okState base = true) (ha : okState a = true) (hb2 : okState b = true) (n : List UInt8) : vIn (mergeL base a b) n = mergeV base a b n := by
  have hg := mergeL_good hb ha hb2
  by_cases h : 0 ≤ mergeV base a b n
  · have hn : n ∈ names3 base a b := by
      rw [names3_mem]
      by_cases h1 : n ∈ namesOf base ∨ n ∈ namesOf a ∨ n ∈ namesOf b
      · exact h1
      · exfalso
        simp only [not_or] at h1
        unfold mergeV at h
        rw [vIn_out h1.1, vIn_out h1.2.1, vIn_out h1.2.2] at h
        simp at h
    exact vIn_mem hg.rise (x := ⟨n, mergeV base a b n⟩) (mergeL_mem.2 ⟨hn, h, rfl⟩)
  · have h1 : n ∉ namesOf (mergeL base a b) := fun hm => by
      simp only [namesOf, List.mem_map] at hm
      obtain ⟨x, hx, rfl⟩ := hm
      exact h (mergeL_mem.1 hx).2.1
    rw [vIn_out h1]
    have : -1 ≤ mergeV base a b n := by
      unfold mergeV; split
      · exact (vIn_ge hb2 _).1
      · exact (vIn_ge ha _).1
    omega
theorem confl_none (h : ∀ n, confB base a b n = false) : conflL base a b = [] := by
  unfold conflL; rw [List.filter_eq_nil_iff]; intro n _; rw [h n]; decide
theorem merge2_is {c : List NV} (hb : okState base = true) (ha : okState a = true) (hb2 : okState b = true) (hc : okState c = true) (h1 : ∀ n, confB base a b n = false) (h2 : ∀ n, mergeV base a b n = vIn c n) (hl : base.length + a.length + b.length ≤ 24) : mergeStates base a b = (c, 0) := by
  rw [mergeStates_ok (by simp [hb, ha, hb2])]
  have e : mergeL base a b = c := state_ext ((mergeL_good hb ha hb2).ok hl) hc (fun n => by rw [mergeL_vIn hb ha hb2, h2])
  unfold merge2
  rw [confl_none h1, e, if_neg (by simp), if_neg (by have := state_len hc; omega)]
theorem merge_left (hb : okState base = true) (ha : okState a = true) (hl : base.length + a.length + base.length ≤ 24) : mergeStates base a base = (a, 0) :=
  merge2_is hb ha hb ha (fun n => by simp [confB]) (fun n => by unfold mergeV; split <;> omega) hl
theorem merge_right (hb : okState base = true) (ha : okState a = true) (hl : base.length + base.length + a.length ≤ 24) : mergeStates base base a = (a, 0) :=
  merge2_is hb hb ha ha (fun n => by simp [confB]) (fun n => by unfold mergeV; rw [if_pos rfl]) hl
theorem merge_both (hb : okState base = true) (ha : okState a = true) (hl : base.length + a.length + a.length ≤ 24) : mergeStates base a a = (a, 0) :=
  merge2_is hb ha ha ha (fun n => by simp [confB]) (fun n => by unfold mergeV; split <;> rfl) hl
theorem names3_swap : names3 base a b = names3 base b a :=
  rises_ext (compact_sort _).1 (compact_sort _).1 (fun x => by
    have h1 := names3_mem (base := base) (a := a) (b := b) (n := x)
    have h2 := names3_mem (base := base) (a := b) (b := a) (n := x)
    show x ∈ names3 base a b ↔ x ∈ names3 base b a
    rw [h1, h2]
    constructor
    · rintro (h | h | h) <;> simp [h]
    · rintro (h | h | h) <;> simp [h])
theorem confB_swap (n : List UInt8) : confB base a b n = confB base b a n := by
  unfold confB
  rw [Bool.eq_iff_iff]
  simp only [Bool.and_eq_true, decide_eq_true_eq]
  constructor
  · rintro ⟨⟨h1, h2⟩, h3⟩; exact ⟨⟨fun e => h1 e.symm, h3⟩, h2⟩
  · rintro ⟨⟨h1, h2⟩, h3⟩; exact ⟨⟨fun e => h1 e.symm, h3⟩, h2⟩
theorem conflL_swap : conflL base a b = conflL base b a := by
  unfold conflL
  rw [names3_swap]
  exact List.filter_congr (fun n _ => confB_swap n)
theorem mergeV_swap {n : List UInt8} (h : confB base a b n = false) : mergeV base a b n = mergeV base b a n := by
  unfold confB at h
  simp only [Bool.and_eq_false_iff, decide_eq_false_iff_not, ne_eq, Decidable.not_not] at h
  unfold mergeV
  split <;> split <;> omega
theorem merge_swap (hb : okState base = true) (ha : okState a = true) (hb2 : okState b = true) : mergeStates base a b = mergeStates base b a := by
  rw [mergeStates_ok (by simp [hb, ha, hb2]), mergeStates_ok (by simp [hb, ha, hb2])]
  unfold merge2
  rw [← conflL_swap (base := base) (a := a) (b := b)]
  by_cases h : 0 < (conflL base a b).length
  · rw [if_pos h, if_pos h]
  · have hn : ∀ n ∈ names3 base a b, confB base a b n = false := fun n hm => by
      cases hc : confB base a b n with
      | false => rfl
      | true =>
        exact absurd (List.length_pos_of_mem (List.mem_filter.2 ⟨hm, hc⟩)) h
    have e : mergeL base a b = mergeL base b a := by
      unfold mergeL
      rw [← names3_swap (base := base) (a := a) (b := b)]
      have e1 : (names3 base a b).filter (fun n => decide (0 ≤ mergeV base a b n)) = (names3 base a b).filter (fun n => decide (0 ≤ mergeV base b a n)) := List.filter_congr (fun n hm => by rw [mergeV_swap (hn n hm)])
      rw [e1]
      apply List.map_congr_left
      intro n hm
      rw [mergeV_swap (hn n (List.mem_filter.1 hm).1)]
    rw [e]
theorem conf_len (hb : okState base = true) (ha : okState a = true) (hb2 : okState b = true) : conflictsOf base a b = (conflL base a b, 0) := by
  unfold conflictsOf; rw [if_pos (by simp [hb, ha, hb2])]
theorem merge_code (hb : okState base = true) (ha : okState a = true) (hb2 : okState b = true) : ((mergeStates base a b).2 = 6 ↔ 0 < (conflL base a b).length) ∧ ((mergeStates base a b).2 = 0 → okState (mergeStates base a b).1 = true) := by
  rw [mergeStates_ok (by simp [hb, ha, hb2])]
  unfold merge2
  by_cases h : 0 < (conflL base a b).length
  · rw [if_pos h]; simp [h]
  · rw [if_neg h]
    by_cases h2 : 24 < (mergeL base a b).length
    · rw [if_pos h2]; simp [h]
    · rw [if_neg h2]
      refine ⟨by simp [h], fun _ => ?_⟩
      have hg := mergeL_good hb ha hb2
      exact okState_of hg.one hg.rise (by show (mergeL base a b).length ≤ 24; omega)
end
theorem guard6 {x : Int} {l : Nat} (h : x = 6 ↔ 0 < l) : ((x == 6) != decide ((l : Int) > 0)) = false := by
  by_cases h9 : 0 < l
  · rw [h.2 h9, decide_eq_true (by omega)]; rfl
  · rw [decide_eq_false (by omega), beq_eq_false_iff_ne.2 (fun e => h9 (h.1 e))]; rfl
/-! Histories. -/
theorem vers_good {xs : List Ver} (h : okVers xs = true) : VersGood xs := by
  have hl := vers_len h
  refine ⟨by omega, fun v hv => ?_⟩
  obtain ⟨k, hk⟩ := List.getElem?_of_mem hv
  obtain ⟨_, _, _, h4, h5⟩ := ver_lim (ver_at h hk)
  have := state_len h5
  refine ⟨by unfold okMemo at h4; rw [Bool.and_eq_true, decide_eq_true_eq] at h4; omega, by omega, fun s hs => isName_len (set_lim h5 hs).1⟩
/-- A history as it is drawn. -/
def HG (xs : List Ver) : Prop := xs.length ≤ 5 ∧ ∀ (i : Nat) x, xs[i]? = some x → x.number = (i : Int) + 1 ∧ 0 ≤ x.parent ∧ x.parent ≤ i ∧ okMemo x.memo = true ∧ SG x.state (8 + 3 * i)
theorem HG.nil : HG [] := ⟨(by simp), (fun i x h => by simp at h)⟩
theorem HG.ok {xs : List Ver} (h : HG xs) : okVers xs = true := by
  unfold okVers
  rw [Bool.and_eq_true, decide_eq_true_eq]
  refine ⟨allI_of (fun k x hx => ?_), by have := h.1; omega⟩
  obtain ⟨h1, h2, h3, h4, h5⟩ := h.2 k x hx
  have hk := lt_of_get hx
  have := h.1
  simp only [okVer, Bool.and_eq_true, decide_eq_true_eq]
  exact ⟨⟨⟨h1, h2, h3⟩, h4⟩, h5.ok (by omega)⟩
theorem HG.add {xs : List Ver} (h : HG xs) (hl : xs.length < 5) {n p : Int} {memo : List UInt8} {st : List NV} (hn : n = (xs.length : Int) + 1) (h0 : 0 ≤ p) (h1 : p ≤ xs.length) (hm : okMemo memo = true) (hs : SG st (8 + 3 * xs.length)) : HG (xs ++ [⟨n, p, memo, st⟩]) := by
  refine ⟨by simp only [List.length_append, List.length_cons, List.length_nil]; omega, fun i x hx => ?_⟩
  by_cases hi : i < xs.length
  · rw [List.getElem?_append_left hi] at hx; exact h.2 i x hx
  · have hi2 : i = xs.length := by
      have := lt_of_get hx
      simp only [List.length_append, List.length_cons, List.length_nil] at this; omega
    subst hi2
    rw [List.getElem?_append_right (Nat.le_refl _), Nat.sub_self] at hx
    obtain rfl := Option.some.inj hx
    exact ⟨hn, h0, h1, hm, hs⟩
theorem memo_draw {m : List UInt8} (h : m ∈ [[], [110, 101, 119], [97, 32, 98]]) : okMemo m = true := by
  simp only [List.mem_cons, List.not_mem_nil, or_false] at h
  rcases h with rfl | rfl | rfl <;> decide
theorem merge_hist {xs : List Ver} {a b : Int} {memo : List UInt8} (h : okVers xs = true) (ha : inVers xs a = true) (hb : inVers xs b = true) (hm : okMemo memo = true) (hc : (mergeVersions xs a b memo).2 = 0) :
    (mergeVersions xs a b memo).1.length = xs.length + 1 ∧ okVers (mergeVersions xs a b memo).1 = true := by
  unfold mergeVersions at hc ⊢
  rw [if_pos (by simp [h, hm]), if_pos (by simp [ha, hb])] at hc ⊢
  by_cases h2 : (merge2V xs a b).2 ≠ 0
  · rw [if_pos h2] at hc; exact absurd hc h2
  · rw [if_neg h2] at hc ⊢
    simp only [ne_eq, Decidable.not_not] at h2
    have hs : okState (merge2V xs a b).1 = true := by
      have := (merge_code (stT_ok h (commonA xs a b)) (stT_ok h a) (stT_ok h b)).2
      rw [mergeStates_ok (by simp [stT_ok h])] at this
      exact this h2
    unfold addV at hc ⊢
    by_cases h32 : xs.length = 32
    · rw [if_pos h32] at hc; simp at hc
    · rw [if_neg h32]
      have hl := vers_len h
      simp only [inVers, Bool.and_eq_true, decide_eq_true_eq] at ha
      refine ⟨by simp, ?_⟩
      unfold okVers
      rw [Bool.and_eq_true, decide_eq_true_eq]
      refine ⟨allI_of (fun k x hx => ?_), by simp only [List.length_append, List.length_cons, List.length_nil]; omega⟩
      by_cases hi : k < xs.length
      · rw [List.getElem?_append_left hi] at hx; exact ver_at h hx
      · have hi2 : k = xs.length := by
          have := lt_of_get hx
          simp only [List.length_append, List.length_cons, List.length_nil] at this; omega
        subst hi2
        rw [List.getElem?_append_right (Nat.le_refl _), Nat.sub_self] at hx
        obtain rfl := Option.some.inj hx
        simp only [okVer, newVer, List.length_map, Bool.and_eq_true, decide_eq_true_eq]
        exact ⟨⟨⟨trivial, by omega, ha.2⟩, hm⟩, hs⟩
end Go.V
