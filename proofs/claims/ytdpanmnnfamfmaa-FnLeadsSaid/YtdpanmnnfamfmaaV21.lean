/- The calculus' rules: regions whose operations go in any order, with operations that a test guards. -/
import Derived.Test.YtdpanmnnfamfmaaV20
set_option linter.all false
namespace Go.V
open Go Go.RowKit
section
variable {P : Program} {fr : Fr} {st : St} {d : Option Tmp} {t : TypeId} {pos : String} {aft : Array Edge} {g : Option (Nat × Bool)}
theorem YldA.nilCheck {x : Operand} {av : AV} {cs : List AV} (hx : st.ev x = some av) (hb : st.behind av = some cs) : YldA P fr ⟨d, .nilCheck x, t, pos, aft, g⟩ st av :=
  YldA.of_run fun η φ A w hr => by
    obtain ⟨b, o, h1, h2, h3⟩ := behind_rel hb hr (hr.ev hx)
    exact ⟨A.eval x, fun w' _ => by simp [execOp, h1], hr.ev hx⟩
theorem YldA.pickT {c x y : Operand} {av : AV} (hc : st.ev c = some (.p (.v (.bool true)))) (hx : st.ev x = some av) : YldA P fr ⟨d, .pick c x y, t, pos, aft, g⟩ st av :=
  YldA.of_run fun _ _ a _ hr => ⟨a.eval x, fun _ _ => by
    have h := hr.ev hc
    simp only [ARel, Rel] at h
    simp [execOp, h, asBool], hr.ev hx⟩
theorem YldA.pickF {c x y : Operand} {av : AV} (hc : st.ev c = some (.p (.v (.bool false)))) (hy : st.ev y = some av) : YldA P fr ⟨d, .pick c x y, t, pos, aft, g⟩ st av :=
  YldA.of_run fun _ _ a _ hr => ⟨a.eval y, fun _ _ => by
    have h := hr.ev hc
    simp only [ARel, Rel] at h
    simp [execOp, h, asBool], hr.ev hy⟩
theorem YldA.not {ty : TypeId} {x : Operand} {a : Bool} (hx : st.ev x = some (.p (.v (.bool a)))) : YldA P fr ⟨d, .unOp .not ty x, t, pos, aft, g⟩ st (.p (.v (.bool (!a)))) :=
  YldA.of_run fun _ _ A _ hr => ⟨.bool (!a), fun w' _ => by
    have h1 := hr.ev hx
    simp only [ARel, Rel] at h1
    simp [execOp, h1, Op.unary], by simp [ARel, Rel]⟩
end
section
variable {P : Program} {fr : Fr} {st st' : St} {ops : Array Oper} {o : Oper} {α : Type} {fin : α → St} {fuel : Nat} {listed : Array Bool}
theorem ANx.takeG (i : Nat) {o : Oper} {d j dj : Nat} {c : Bool} {av : AV} (ho : ops[i]? = some o) (hs : Region.noSelect ops = true) (hf : Region.free .any ops listed i = true) (hr : (Region.ready .any ops listed).contains i = true)
    (hd : o.dst = some d) (hg : o.guard = some (j, c)) (hj : (ops[j]?).bind (·.dst) = some dj) (hc : get st.tm dj = some (.p (.v (.bool c)))) (hlt : Nat.blt d fr.nt = true) (hy : YldA P fr o st av) (h : ANx P fr ops fin fuel (listed.setIfInBounds i true) (st.put d av)) : ANx P fr ops fin (fuel + 1) listed st := by
  rintro a w ⟨η, φ, hr'⟩
  obtain ⟨u, h1, h2⟩ := hy η φ a w hr'
  exact wpAny_take ho hs hf hr (fun c a w h => by cases h.1) (.inl ⟨by simp [Region.wanted, hg, yielded_of hr' hj hc], h1⟩) (h _ _ ⟨η, φ, by rw [hd]; exact hr'.put hlt h2⟩)
theorem ANx.skip (i : Nat) {o : Oper} {d j dj : Nat} {c : Bool} (ho : ops[i]? = some o) (hs : Region.noSelect ops = true) (hf : Region.free .any ops listed i = true) (hr : (Region.ready .any ops listed).contains i = true)
    (hd : o.dst = some d) (hg : o.guard = some (j, !c)) (hj : (ops[j]?).bind (·.dst) = some dj) (hc : get st.tm dj = some (.p (.v (.bool c)))) (hlt : Nat.blt d fr.nt = true) (h : ANx P fr ops fin fuel (listed.setIfInBounds i true) (st.put d (.p (.v undef)))) : ANx P fr ops fin (fuel + 1) listed st := by
  rintro a w ⟨η, φ, hr'⟩
  exact wpAny_take ho hs hf hr (fun c a w h => by cases h.1) (.inr ⟨by simp [Region.wanted, hg, yielded_of hr' hj hc], rfl⟩) (h _ _ ⟨η, φ, by rw [hd]; exact hr'.put hlt (by simp [ARel, Rel])⟩)
theorem ANx.skipT (i : Nat) {o : Oper} {d j dj : Nat} (ho : ops[i]? = some o) (hs : Region.noSelect ops = true) (hf : Region.free .any ops listed i = true) (hr : (Region.ready .any ops listed).contains i = true)
    (hd : o.dst = some d) (hg : o.guard = some (j, true)) (hj : (ops[j]?).bind (·.dst) = some dj) (hc : get st.tm dj = some (.p (.v (.bool false)))) (hlt : Nat.blt d fr.nt = true) (h : ANx P fr ops fin fuel (listed.setIfInBounds i true) (st.put d (.p (.v undef)))) : ANx P fr ops fin (fuel + 1) listed st :=
  ANx.skip (c := false) i ho hs hf hr hd hg hj hc hlt h
theorem ANx.skipF (i : Nat) {o : Oper} {d j dj : Nat} (ho : ops[i]? = some o) (hs : Region.noSelect ops = true) (hf : Region.free .any ops listed i = true) (hr : (Region.ready .any ops listed).contains i = true)
    (hd : o.dst = some d) (hg : o.guard = some (j, false)) (hj : (ops[j]?).bind (·.dst) = some dj) (hc : get st.tm dj = some (.p (.v (.bool true)))) (hlt : Nat.blt d fr.nt = true) (h : ANx P fr ops fin fuel (listed.setIfInBounds i true) (st.put d (.p (.v undef)))) : ANx P fr ops fin (fuel + 1) listed st :=
  ANx.skip (c := true) i ho hs hf hr hd hg hj hc hlt h
theorem ANx.skipU (i : Nat) {o : Oper} {d j dj : Nat} {c : Bool} (ho : ops[i]? = some o) (hs : Region.noSelect ops = true) (hf : Region.free .any ops listed i = true) (hr : (Region.ready .any ops listed).contains i = true)
    (hd : o.dst = some d) (hg : o.guard = some (j, c)) (hj : (ops[j]?).bind (·.dst) = some dj) (hc : get st.tm dj = some (.p (.v undef))) (hlt : Nat.blt d fr.nt = true) (h : ANx P fr ops fin fuel (listed.setIfInBounds i true) (st.put d (.p (.v undef)))) : ANx P fr ops fin (fuel + 1) listed st := by
  rintro a w ⟨η, φ, hr'⟩
  refine wpAny_take ho hs hf hr (fun c a w h => by cases h.1) (.inr ⟨?_, rfl⟩) (h _ _ ⟨η, φ, by rw [hd]; exact hr'.put hlt (by simp [ARel, Rel])⟩)
  obtain ⟨u, h1, h2⟩ := hr'.slots dj _ hc
  simp only [ARel, Rel] at h2
  subst h2
  have : yielded ops a.tmps j = none := by simp [yielded, hj, h1, undef]
  simp [Region.wanted, hg, this]
theorem ANx.splitAt (j : Nat) (c : Bool) (hc : get st.tm j = some (.p (.v (.bool c)))) (ht : c = true → ANx P fr ops fin fuel listed (st.put j (.p (.v (.bool true)))))
    (hf : c = false → ANx P fr ops fin fuel listed (st.put j (.p (.v (.bool false))))) : ANx P fr ops fin fuel listed st := by
  have key : ∀ η φ a w, RepE fr η φ st a w → RepE fr η φ (st.put j (.p (.v (.bool c)))) a w := by
    intro η φ a w hr
    refine ⟨hr.defers, hr.size, ?_, hr.res, hr.disj, hr.low, hr.lt, hr.keep, hr.pin⟩
    intro i av hg
    simp only [St.put, get_cons] at hg
    split at hg
    · next e => subst e; obtain rfl := Option.some.inj hg; exact hr.slots _ _ hc
    · exact hr.slots i av hg
  have main : ANx P fr ops fin fuel listed (st.put j (.p (.v (.bool c)))) := by
    cases c with
    | true => exact ht rfl
    | false => exact hf rfl
  exact fun a w ⟨η, φ, hr⟩ => main a w ⟨η, φ, key η φ a w hr⟩
theorem Stpx.effG {i : Nat} {o : Oper} {j dj : Nat} {c : Bool} (ho : ops[i]? = some o) (hg : o.guard = some (j, c)) (hj : (ops[j]?).bind (·.dst) = some dj) (hc : get st.tm dj = some (.p (.v (.bool c)))) (he : Eff P fr o st st') (h : ANx P fr ops fin fuel (listed.setIfInBounds i true) st') : Stpx P fr ops fin fuel listed st i := by
  rintro a w ⟨η, φ, hr⟩
  unfold wpOp
  simp only [ho, show Region.wanted o (yielded ops a.tmps) = true by simp [Region.wanted, hg, yielded_of hr hj hc], if_true]
  exact .inl (he.wp ⟨η, φ, hr⟩ h)
theorem Stpx.effXG {i : Nat} {o : Oper} {T : St → Prop} {j dj : Nat} {c : Bool} (ho : ops[i]? = some o) (hg : o.guard = some (j, c)) (hj : (ops[j]?).bind (·.dst) = some dj) (hc : get st.tm dj = some (.p (.v (.bool c)))) (he : EffX P fr o st T) (h : ∀ s, T s → ANx P fr ops fin fuel (listed.setIfInBounds i true) s) : Stpx P fr ops fin fuel listed st i := by
  rintro a w ⟨η, φ, hr⟩
  unfold wpOp
  simp only [ho, show Region.wanted o (yielded ops a.tmps) = true by simp [Region.wanted, hg, yielded_of hr hj hc], if_true]
  exact .inl (he.wp ⟨η, φ, hr⟩ h)
end
end Go.V
