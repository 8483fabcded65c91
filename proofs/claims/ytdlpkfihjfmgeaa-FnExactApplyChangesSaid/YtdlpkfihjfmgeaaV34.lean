/- A slice of one's own whose block a call turns in place. -/
import Derived.Test.YtdlpkfihjfmgeaaV32
set_option linter.all false
namespace Go.V
open Go
theorem vec_inplace {w0 : World} {F0 : List Nat} {η : Nat → Value} {φ : Nat → List Nat} {w w' : World} {ty : TypeId} {rs : Nat} {rows rows' : List (List PV)} {g n cap : Nat} {cur' : Array Value} {xs' : List Value}
    (hk : HpOk η φ ((900, Res.cust (extC w0 F0)) :: [(0, Res.vec ty rs rows)]) w) (he : η 0 = .slice (some ⟨g, 0, none⟩) n cap) (hF : φ 0 = [g]) (hgr : w.grownBy w' (some g)) (hg' : w'.heap[g]? = some (.cells cur' ty (0, 0))) (hcs : cur'.size = cap * rs) (hcm : cap ≤ maxLen)
    (hlen : ∀ r ∈ rows', r.length = rs) (hl : rows'.length ≤ cap) (hx : cur'.toList.take (rows'.length * rs) = xs') (hxl : xs'.length = rows'.length * rs) (hrel : RelL (SOf φ ((900, Res.cust (extC w0 F0)) :: [(0, Res.vec ty rs rows)])) w rows'.flatten xs') :
    HpOk (fun k => if k = 0 then .slice (some ⟨g, 0, none⟩) rows'.length cap else η k) φ ((900, Res.cust (extC w0 F0)) :: [(0, Res.vec ty rs rows')]) w' ∧
      (∀ i r k, get ((900, Res.cust (extC w0 F0)) :: [(0, Res.vec ty rs rows')]) i = some r → k ∈ φ i → SOf φ ((900, Res.cust (extC w0 F0)) :: [(0, Res.vec ty rs rows)]) k ∨ w.heap.size ≤ k) ∧
      Keep (SOf φ ((900, Res.cust (extC w0 F0)) :: [(0, Res.vec ty rs rows)])) w w' := by
  have hgF : g ∈ φ 0 := by rw [hF]; simp
  have hS : SOf φ ((900, Res.cust (extC w0 F0)) :: [(0, Res.vec ty rs rows)]) g := ⟨0, _, rfl, hgF⟩
  have hsame : Same (SOf φ ((900, Res.cust (extC w0 F0)) :: [(0, Res.vec ty rs rows)])) w w' := ⟨hgr.size, fun k hk2 hns => hgr.block k hk2 (fun e => hns (by cases e; exact hS))⟩
  have hids : ∀ (rw' : List (List PV)) id r, get ((900, Res.cust (extC w0 F0)) :: [(0, Res.vec ty rs rw')]) id = some r → (id = 900 ∧ r = Res.cust (extC w0 F0)) ∨ (id = 0 ∧ r = Res.vec ty rs rw') := by
    intro rw' id r h5
    rw [get_cons] at h5
    split at h5
    · next e => left; exact ⟨e.symm, (Option.some.inj h5).symm⟩
    · rw [get_cons] at h5
      split at h5
      · next e => right; exact ⟨e.symm, (Option.some.inj h5).symm⟩
      · cases h5
  have hget : ∀ id r, get ((900, Res.cust (extC w0 F0)) :: [(0, Res.vec ty rs rows')]) id = some r → ∃ r', get ((900, Res.cust (extC w0 F0)) :: [(0, Res.vec ty rs rows)]) id = some r' := by
    intro id r h5
    rcases hids _ id r h5 with ⟨rfl, _⟩ | ⟨rfl, _⟩
    · exact ⟨_, rfl⟩
    · exact ⟨_, rfl⟩
  have hSS : ∀ k, SOf φ ((900, Res.cust (extC w0 F0)) :: [(0, Res.vec ty rs rows')]) k → SOf φ ((900, Res.cust (extC w0 F0)) :: [(0, Res.vec ty rs rows)]) k := by
    rintro k ⟨id, r, h5, h6⟩
    obtain ⟨r', h7⟩ := hget id r h5
    exact ⟨id, r', h7, h6⟩
  refine ⟨⟨?_, ?_, ?_⟩, ?_, ?_⟩
  · intro id r h5
    rcases hids _ id r h5 with ⟨rfl, rfl⟩ | ⟨rfl, rfl⟩
    · have hx9 := hk.res 900 _ rfl
      simp only [show ¬ ((900 : Nat) = 0) by decide, if_false]
      refine RRes.mono hsame (fun k _ hk3 => hSS k hk3) (fun k hk3 => ?_) _ (fun i hi => rfl) hx9
      exact hgr.block k (hk.lt 900 _ k rfl hk3) (fun e => by
        cases e
        have := hk.disj 900 0 _ _ g rfl rfl hk3 hgF
        cases this)
    · simp only [if_true]
      exact ⟨xs', RelL.mono hsame (fun k _ hk3 => hSS k hk3) _ _ hrel, hlen, ⟨hxl, .inr ⟨g, cap, cur', rfl, Nat.zero_le _, hg', hl, hcm, hcs, hx⟩⟩, by rw [hF]; rfl⟩
  · intro id id' r r' k h5 h6 h7 h8
    obtain ⟨_, e5⟩ := hget id r h5
    obtain ⟨_, e6⟩ := hget id' r' h6
    exact hk.disj id id' _ _ k e5 e6 h7 h8
  · intro id r k h5 h6
    obtain ⟨_, e5⟩ := hget id r h5
    exact Nat.lt_of_lt_of_le (hk.lt id _ k e5 h6) hgr.size
  · intro id r k h5 h6
    obtain ⟨_, e5⟩ := hget id r h5
    exact .inl ⟨id, _, e5, h6⟩
  · exact ⟨hgr.os, hgr.tape, hgr.output, hgr.size, fun k hk2 hns => hsame.block k hk2 hns⟩
end Go.V
